/- Contract of fairref.Take, by cases (8). -/
import Derived.Test.YtmipnikhgihcpaaKeyQ
namespace Go.Proofs.Ytmipnikhgihcpaa
open Go.RowKit
set_option linter.unusedVariables false
set_option linter.unusedSimpArgs false

set_option maxRecDepth 100000 in
set_option maxHeartbeats 8000000 in
theorem ref_take_lo1 (f r o s wt key : Int) (w : World) (hp : partE f r o s wt = 0) (hlo : key < 32) :
    Calls Try.prog 119 #[.agg #[.int .i64 f, .int .i64 r, .int .i64 o, .int .i64 s, .int .i64 wt], .int .i64 key] w (RefPost (TK.wrong) w) := by
  have hmf : ∀ (fn : Fn) (first cap : Array Value) (w : World), (Instr.makeFunc fn first cap).run Try.prog w = .ok (.func fn first cap) w := fun _ _ _ _ => rfl
  have hX := Box4.start w f r o s wt
  obtain ⟨b1, b2, b3, b4, b5⟩ := part_ok hp
  clear hp b5

  have HE := Lib.hid (Box4.start w f r o s wt)
  go_enter Try.func119, Try.ntmps119
  go_upto_region 5 with fail
  generalize ((((w.alloc (.cells #[.int .i64 f, .int .i64 r, .int .i64 o, .int .i64 s, .int .i64 wt] 83)).alloc (.cells #[.int .i64 0, .int .i64 0, .int .i64 0, .int .i64 0, .int .i64 0] 83)).alloc (.cells #[.int .i64 0, .int .i64 0, .int .i64 0, .int .i64 0, .int .i64 0] 80)).alloc (.cells #[.int .i64 f, .int .i64 r, .int .i64 o, .int .i64 s, .int .i64 wt] 83)) = w1 at *
  obtain ⟨c0, c1, c2, c3, c4⟩ := hX.b.p.five
  obtain ⟨d0, d1, d2, d3, d4⟩ := hX.v.five
  obtain ⟨f0, f1, f2, f3, f4⟩ := hX.v.fiveF
  go_wp2_with (first | (go_at_call 166; refine (take_wrong _).mono ?_; rintro e w9 ⟨rfl, hb⟩; have hX := hX.below hb; obtain ⟨k0, k1, k2, k3, k4⟩ := hX.b.q.five; obtain ⟨l0, l1, l2, l3, l4⟩ := hX.b.q.fiveF; obtain ⟨m0, m1, m2, m3, m4⟩ := hX.b.c.five; obtain ⟨n0, n1, n2, n3, n4⟩ := hX.b.c.fiveF))
  obtain ⟨hq, hc, hbel⟩ := hX.b.done (.int .i64 (0)) (.int .i64 (0)) (.int .i64 (0)) (.int .i64 (0)) (.int .i64 (0)) (.int .i64 (0)) (.int .i64 (0)) (.int .i64 (0)) (.int .i64 (0)) (.int .i64 (0)) rfl
  obtain ⟨y0, y1, y2, y3, y4⟩ := hq.five
  obtain ⟨z0, z1, z2, z3, z4⟩ := hc.five
  exact bodyPost_ret (v := .tuple #[(TK.wrong).q, (TK.wrong).c, .int .i64 3]) (by simp [results, Try.results119, go_sem, TK.wrong, TK.q, TK.c, y0, y1, y2, y3, y4, z0, z1, z2, z3, z4]) rfl (RefPost.of hbel)

set_option maxRecDepth 100000 in
set_option maxHeartbeats 8000000 in
theorem ref_take_lo2 (f r o s wt key : Int) (w : World) (hp : partE f r o s wt = 0) (hlo : (key == 127) = true) (hl2 : 32 ≤ key) :
    Calls Try.prog 119 #[.agg #[.int .i64 f, .int .i64 r, .int .i64 o, .int .i64 s, .int .i64 wt], .int .i64 key] w (RefPost (TK.wrong) w) := by
  have hmf : ∀ (fn : Fn) (first cap : Array Value) (w : World), (Instr.makeFunc fn first cap).run Try.prog w = .ok (.func fn first cap) w := fun _ _ _ _ => rfl
  have hX := Box4.start w f r o s wt
  obtain ⟨b1, b2, b3, b4, b5⟩ := part_ok hp
  clear hp b5

  have HE := Lib.hid (Box4.start w f r o s wt)
  go_enter Try.func119, Try.ntmps119
  go_upto_region 5 with fail
  generalize ((((w.alloc (.cells #[.int .i64 f, .int .i64 r, .int .i64 o, .int .i64 s, .int .i64 wt] 83)).alloc (.cells #[.int .i64 0, .int .i64 0, .int .i64 0, .int .i64 0, .int .i64 0] 83)).alloc (.cells #[.int .i64 0, .int .i64 0, .int .i64 0, .int .i64 0, .int .i64 0] 80)).alloc (.cells #[.int .i64 f, .int .i64 r, .int .i64 o, .int .i64 s, .int .i64 wt] 83)) = w1 at *
  obtain ⟨c0, c1, c2, c3, c4⟩ := hX.b.p.five
  obtain ⟨d0, d1, d2, d3, d4⟩ := hX.v.five
  obtain ⟨f0, f1, f2, f3, f4⟩ := hX.v.fiveF
  go_wp2_with (first | (go_at_call 166; refine (take_wrong _).mono ?_; rintro e w9 ⟨rfl, hb⟩; have hX := hX.below hb; obtain ⟨k0, k1, k2, k3, k4⟩ := hX.b.q.five; obtain ⟨l0, l1, l2, l3, l4⟩ := hX.b.q.fiveF; obtain ⟨m0, m1, m2, m3, m4⟩ := hX.b.c.five; obtain ⟨n0, n1, n2, n3, n4⟩ := hX.b.c.fiveF))
  obtain ⟨hq, hc, hbel⟩ := hX.b.done (.int .i64 (0)) (.int .i64 (0)) (.int .i64 (0)) (.int .i64 (0)) (.int .i64 (0)) (.int .i64 (0)) (.int .i64 (0)) (.int .i64 (0)) (.int .i64 (0)) (.int .i64 (0)) rfl
  obtain ⟨y0, y1, y2, y3, y4⟩ := hq.five
  obtain ⟨z0, z1, z2, z3, z4⟩ := hc.five
  exact bodyPost_ret (v := .tuple #[(TK.wrong).q, (TK.wrong).c, .int .i64 3]) (by simp [results, Try.results119, go_sem, TK.wrong, TK.q, TK.c, y0, y1, y2, y3, y4, z0, z1, z2, z3, z4]) rfl (RefPost.of hbel)

set_option maxRecDepth 100000 in
set_option maxHeartbeats 8000000 in
theorem ref_take_q_y (f r o s key : Int) (w : World) (hp : partE f r o s 34 = 0) (hu : Usual key) (hl : letB key = true) :
    Calls Try.prog 119 #[.agg #[.int .i64 f, .int .i64 r, .int .i64 o, .int .i64 s, .int .i64 34], .int .i64 key] w (RefPost (TK.more f key o s 0) w) := by
  have hmf : ∀ (fn : Fn) (first cap : Array Value) (w : World), (Instr.makeFunc fn first cap).run Try.prog w = .ok (.func fn first cap) w := fun _ _ _ _ => rfl
  have hX := Box4.start w f r o s 34
  obtain ⟨b1, b2, b3, b4, b5⟩ := part_ok hp
  clear hp b5
  have u1 : 32 ≤ key := by unfold Usual at hu; omega
  have u2 : (key == 127) = false := by unfold Usual at hu; simp; omega
  clear hu
  have HL := Lib.hid (show letB key = true from hl)
  clear hl
  have HE := Lib.hid (Box4.start w f r o s 34)
  go_enter Try.func119, Try.ntmps119
  go_upto_region 5 with fail
  generalize ((((w.alloc (.cells #[.int .i64 f, .int .i64 r, .int .i64 o, .int .i64 s, .int .i64 34] 83)).alloc (.cells #[.int .i64 0, .int .i64 0, .int .i64 0, .int .i64 0, .int .i64 0] 83)).alloc (.cells #[.int .i64 0, .int .i64 0, .int .i64 0, .int .i64 0, .int .i64 0] 80)).alloc (.cells #[.int .i64 f, .int .i64 r, .int .i64 o, .int .i64 s, .int .i64 34] 83)) = w1 at *
  obtain ⟨c0, c1, c2, c3, c4⟩ := hX.b.p.five
  obtain ⟨d0, d1, d2, d3, d4⟩ := hX.v.five
  obtain ⟨f0, f1, f2, f3, f4⟩ := hX.v.fiveF
  go_wp2_with (first | (go_at_call 170; refine (ref_isLetter _ _).mono ?_; rintro e w9 ⟨rfl, rfl⟩; rw [HL.out]) | (go_at_call 169; refine (take_more _ _ _ _ _ _).mono ?_; rintro e w9 ⟨rfl, hb⟩; have hX := ((hX.setv (u0 := f) (u1 := key) (u2 := o) (u3 := s) (u4 := 34) 1 (.int .i64 key) rfl).setv (u0 := f) (u1 := key) (u2 := o) (u3 := s) (u4 := 0) 4 (.int .i64 0) rfl).below hb; obtain ⟨k0, k1, k2, k3, k4⟩ := hX.b.q.five; obtain ⟨l0, l1, l2, l3, l4⟩ := hX.b.q.fiveF; obtain ⟨m0, m1, m2, m3, m4⟩ := hX.b.c.five; obtain ⟨n0, n1, n2, n3, n4⟩ := hX.b.c.fiveF))
  obtain ⟨hq, hc, hbel⟩ := hX.b.done (.int .i64 (f)) (.int .i64 (key)) (.int .i64 (o)) (.int .i64 (s)) (.int .i64 (0)) (.int .i64 (0)) (.int .i64 (0)) (.int .i64 (0)) (.int .i64 (0)) (.int .i64 (0)) rfl
  obtain ⟨y0, y1, y2, y3, y4⟩ := hq.five
  obtain ⟨z0, z1, z2, z3, z4⟩ := hc.five
  exact bodyPost_ret (v := .tuple #[(TK.more (f) (key) (o) (s) (0)).q, (TK.more (f) (key) (o) (s) (0)).c, .int .i64 1]) (by simp [results, Try.results119, go_sem, TK.more, TK.q, TK.c, y0, y1, y2, y3, y4, z0, z1, z2, z3, z4]) rfl (RefPost.of hbel)

set_option maxRecDepth 100000 in
set_option maxHeartbeats 8000000 in
theorem ref_take_q_n (f r o s key : Int) (w : World) (hp : partE f r o s 34 = 0) (hu : Usual key) (hl : letB key = false) :
    Calls Try.prog 119 #[.agg #[.int .i64 f, .int .i64 r, .int .i64 o, .int .i64 s, .int .i64 34], .int .i64 key] w (RefPost (TK.wrong) w) := by
  have hmf : ∀ (fn : Fn) (first cap : Array Value) (w : World), (Instr.makeFunc fn first cap).run Try.prog w = .ok (.func fn first cap) w := fun _ _ _ _ => rfl
  have hX := Box4.start w f r o s 34
  obtain ⟨b1, b2, b3, b4, b5⟩ := part_ok hp
  clear hp b5
  have u1 : 32 ≤ key := by unfold Usual at hu; omega
  have u2 : (key == 127) = false := by unfold Usual at hu; simp; omega
  clear hu
  have HL := Lib.hid (show letB key = false from hl)
  clear hl
  have HE := Lib.hid (Box4.start w f r o s 34)
  go_enter Try.func119, Try.ntmps119
  go_upto_region 5 with fail
  generalize ((((w.alloc (.cells #[.int .i64 f, .int .i64 r, .int .i64 o, .int .i64 s, .int .i64 34] 83)).alloc (.cells #[.int .i64 0, .int .i64 0, .int .i64 0, .int .i64 0, .int .i64 0] 83)).alloc (.cells #[.int .i64 0, .int .i64 0, .int .i64 0, .int .i64 0, .int .i64 0] 80)).alloc (.cells #[.int .i64 f, .int .i64 r, .int .i64 o, .int .i64 s, .int .i64 34] 83)) = w1 at *
  obtain ⟨c0, c1, c2, c3, c4⟩ := hX.b.p.five
  obtain ⟨d0, d1, d2, d3, d4⟩ := hX.v.five
  obtain ⟨f0, f1, f2, f3, f4⟩ := hX.v.fiveF
  go_wp2_with (first | (go_at_call 170; refine (ref_isLetter _ _).mono ?_; rintro e w9 ⟨rfl, rfl⟩; rw [HL.out]) | (go_at_call 166; refine (take_wrong _).mono ?_; rintro e w9 ⟨rfl, hb⟩; have hX := hX.below hb; obtain ⟨k0, k1, k2, k3, k4⟩ := hX.b.q.five; obtain ⟨l0, l1, l2, l3, l4⟩ := hX.b.q.fiveF; obtain ⟨m0, m1, m2, m3, m4⟩ := hX.b.c.five; obtain ⟨n0, n1, n2, n3, n4⟩ := hX.b.c.fiveF))
  obtain ⟨hq, hc, hbel⟩ := hX.b.done (.int .i64 (0)) (.int .i64 (0)) (.int .i64 (0)) (.int .i64 (0)) (.int .i64 (0)) (.int .i64 (0)) (.int .i64 (0)) (.int .i64 (0)) (.int .i64 (0)) (.int .i64 (0)) rfl
  obtain ⟨y0, y1, y2, y3, y4⟩ := hq.five
  obtain ⟨z0, z1, z2, z3, z4⟩ := hc.five
  exact bodyPost_ret (v := .tuple #[(TK.wrong).q, (TK.wrong).c, .int .i64 3]) (by simp [results, Try.results119, go_sem, TK.wrong, TK.q, TK.c, y0, y1, y2, y3, y4, z0, z1, z2, z3, z4]) rfl (RefPost.of hbel)

set_option maxRecDepth 100000 in
set_option maxHeartbeats 8000000 in
theorem ref_take_i_y (f r o s wt key : Int) (w : World) (hp : partE f r o s wt = 0) (hu : Usual key) (hi : iaB wt = true) (ho : obB key = true) :
    Calls Try.prog 119 #[.agg #[.int .i64 f, .int .i64 r, .int .i64 o, .int .i64 s, .int .i64 wt], .int .i64 key] w (RefPost (TK.done f r o s wt key) w) := by
  have hmf : ∀ (fn : Fn) (first cap : Array Value) (w : World), (Instr.makeFunc fn first cap).run Try.prog w = .ok (.func fn first cap) w := fun _ _ _ _ => rfl
  have hX := Box4.start w f r o s wt
  obtain ⟨b1, b2, b3, b4, b5⟩ := part_ok hp
  clear hp b5
  have u1 : 32 ≤ key := by unfold Usual at hu; omega
  have u2 : (key == 127) = false := by unfold Usual at hu; simp; omega
  clear hu
  have HI := Lib.hid (show iaB wt = true from hi)
  have HO := Lib.hid (show obB key = true from ho)
  have i34 : (wt == 34) = false := by have := (iaB_34 hi).1; simpa using this
  clear hi ho
  have HE := Lib.hid (Box4.start w f r o s wt)
  go_enter Try.func119, Try.ntmps119
  go_upto_region 5 with fail
  generalize ((((w.alloc (.cells #[.int .i64 f, .int .i64 r, .int .i64 o, .int .i64 s, .int .i64 wt] 83)).alloc (.cells #[.int .i64 0, .int .i64 0, .int .i64 0, .int .i64 0, .int .i64 0] 83)).alloc (.cells #[.int .i64 0, .int .i64 0, .int .i64 0, .int .i64 0, .int .i64 0] 80)).alloc (.cells #[.int .i64 f, .int .i64 r, .int .i64 o, .int .i64 s, .int .i64 wt] 83)) = w1 at *
  obtain ⟨c0, c1, c2, c3, c4⟩ := hX.b.p.five
  obtain ⟨d0, d1, d2, d3, d4⟩ := hX.v.five
  obtain ⟨f0, f1, f2, f3, f4⟩ := hX.v.fiveF
  go_wp2_with (first | (go_at_call 121; refine (ref_in _ _ (by decide) _).mono ?_; rintro e w9 ⟨rfl, hb⟩; (first | rw [in_ia, HI.out] | rw [in_ob, HO.out]); have hX := hX.below hb; clear c0 c1 c2 c3 c4 d0 d1 d2 d3 d4 f0 f1 f2 f3 f4; obtain ⟨c0, c1, c2, c3, c4⟩ := hX.b.p.five; obtain ⟨d0, d1, d2, d3, d4⟩ := hX.v.five; obtain ⟨f0, f1, f2, f3, f4⟩ := hX.v.fiveF) | (go_at_call 167; refine (take_done _ _ _ _ _ _ _ _ _ hX.b.p b1 b2 b3 b4).mono ?_; rintro e w9 ⟨rfl, hb⟩; have hX := hX.below hb; obtain ⟨k0, k1, k2, k3, k4⟩ := hX.b.q.five; obtain ⟨l0, l1, l2, l3, l4⟩ := hX.b.q.fiveF; obtain ⟨m0, m1, m2, m3, m4⟩ := hX.b.c.five; obtain ⟨n0, n1, n2, n3, n4⟩ := hX.b.c.fiveF))
  obtain ⟨hq, hc, hbel⟩ := hX.b.done (.int .i64 (0)) (.int .i64 (0)) (.int .i64 (0)) (.int .i64 (0)) (.int .i64 (0)) (.int .i64 (totV f s)) (.int .i64 (r)) (.int .i64 (o)) (.int .i64 (wt)) (.int .i64 (key)) rfl
  obtain ⟨y0, y1, y2, y3, y4⟩ := hq.five
  obtain ⟨z0, z1, z2, z3, z4⟩ := hc.five
  exact bodyPost_ret (v := .tuple #[(TK.done f r o s wt key).q, (TK.done f r o s wt key).c, .int .i64 2]) (by simp [results, Try.results119, go_sem, TK.done, TK.q, TK.c, y0, y1, y2, y3, y4, z0, z1, z2, z3, z4]) rfl (RefPost.of hbel)

set_option maxRecDepth 100000 in
set_option maxHeartbeats 8000000 in
theorem ref_take_i_n (f r o s wt key : Int) (w : World) (hp : partE f r o s wt = 0) (hu : Usual key) (hi : iaB wt = true) (ho : obB key = false) :
    Calls Try.prog 119 #[.agg #[.int .i64 f, .int .i64 r, .int .i64 o, .int .i64 s, .int .i64 wt], .int .i64 key] w (RefPost (TK.wrong) w) := by
  have hmf : ∀ (fn : Fn) (first cap : Array Value) (w : World), (Instr.makeFunc fn first cap).run Try.prog w = .ok (.func fn first cap) w := fun _ _ _ _ => rfl
  have hX := Box4.start w f r o s wt
  obtain ⟨b1, b2, b3, b4, b5⟩ := part_ok hp
  clear hp b5
  have u1 : 32 ≤ key := by unfold Usual at hu; omega
  have u2 : (key == 127) = false := by unfold Usual at hu; simp; omega
  clear hu
  have HI := Lib.hid (show iaB wt = true from hi)
  have HO := Lib.hid (show obB key = false from ho)
  have i34 : (wt == 34) = false := by have := (iaB_34 hi).1; simpa using this
  clear hi ho
  have HE := Lib.hid (Box4.start w f r o s wt)
  go_enter Try.func119, Try.ntmps119
  go_upto_region 5 with fail
  generalize ((((w.alloc (.cells #[.int .i64 f, .int .i64 r, .int .i64 o, .int .i64 s, .int .i64 wt] 83)).alloc (.cells #[.int .i64 0, .int .i64 0, .int .i64 0, .int .i64 0, .int .i64 0] 83)).alloc (.cells #[.int .i64 0, .int .i64 0, .int .i64 0, .int .i64 0, .int .i64 0] 80)).alloc (.cells #[.int .i64 f, .int .i64 r, .int .i64 o, .int .i64 s, .int .i64 wt] 83)) = w1 at *
  obtain ⟨c0, c1, c2, c3, c4⟩ := hX.b.p.five
  obtain ⟨d0, d1, d2, d3, d4⟩ := hX.v.five
  obtain ⟨f0, f1, f2, f3, f4⟩ := hX.v.fiveF
  go_wp2_with (first | (go_at_call 121; refine (ref_in _ _ (by decide) _).mono ?_; rintro e w9 ⟨rfl, hb⟩; (first | rw [in_ia, HI.out] | rw [in_ob, HO.out]); have hX := hX.below hb; clear c0 c1 c2 c3 c4 d0 d1 d2 d3 d4 f0 f1 f2 f3 f4; obtain ⟨c0, c1, c2, c3, c4⟩ := hX.b.p.five; obtain ⟨d0, d1, d2, d3, d4⟩ := hX.v.five; obtain ⟨f0, f1, f2, f3, f4⟩ := hX.v.fiveF) | (go_at_call 166; refine (take_wrong _).mono ?_; rintro e w9 ⟨rfl, hb⟩; have hX := hX.below hb; obtain ⟨k0, k1, k2, k3, k4⟩ := hX.b.q.five; obtain ⟨l0, l1, l2, l3, l4⟩ := hX.b.q.fiveF; obtain ⟨m0, m1, m2, m3, m4⟩ := hX.b.c.five; obtain ⟨n0, n1, n2, n3, n4⟩ := hX.b.c.fiveF))
  obtain ⟨hq, hc, hbel⟩ := hX.b.done (.int .i64 (0)) (.int .i64 (0)) (.int .i64 (0)) (.int .i64 (0)) (.int .i64 (0)) (.int .i64 (0)) (.int .i64 (0)) (.int .i64 (0)) (.int .i64 (0)) (.int .i64 (0)) rfl
  obtain ⟨y0, y1, y2, y3, y4⟩ := hq.five
  obtain ⟨z0, z1, z2, z3, z4⟩ := hc.five
  exact bodyPost_ret (v := .tuple #[(TK.wrong).q, (TK.wrong).c, .int .i64 3]) (by simp [results, Try.results119, go_sem, TK.wrong, TK.q, TK.c, y0, y1, y2, y3, y4, z0, z1, z2, z3, z4]) rfl (RefPost.of hbel)

set_option maxRecDepth 100000 in
set_option maxHeartbeats 8000000 in
theorem ref_take_w_o (f r o s wt key : Int) (w : World) (hp : partE f r o s wt = 0) (hu : Usual key) (hi : iaB wt = false) (h34 : wt ≠ 34) (h0 : wt ≠ 0) :
    Calls Try.prog 119 #[.agg #[.int .i64 f, .int .i64 r, .int .i64 o, .int .i64 s, .int .i64 wt], .int .i64 key] w (RefPost (TK.done f r o s wt key) w) := by
  have hmf : ∀ (fn : Fn) (first cap : Array Value) (w : World), (Instr.makeFunc fn first cap).run Try.prog w = .ok (.func fn first cap) w := fun _ _ _ _ => rfl
  have hX := Box4.start w f r o s wt
  obtain ⟨b1, b2, b3, b4, b5⟩ := part_ok hp
  clear hp b5
  have u1 : 32 ≤ key := by unfold Usual at hu; omega
  have u2 : (key == 127) = false := by unfold Usual at hu; simp; omega
  clear hu
  have HI := Lib.hid (show iaB wt = false from hi)
  have i34 : (wt == 34) = false := by simpa using h34
  have i0 : (wt != 0) = true := by simpa using h0
  clear hi h34 h0
  have HE := Lib.hid (Box4.start w f r o s wt)
  go_enter Try.func119, Try.ntmps119
  go_upto_region 5 with fail
  generalize ((((w.alloc (.cells #[.int .i64 f, .int .i64 r, .int .i64 o, .int .i64 s, .int .i64 wt] 83)).alloc (.cells #[.int .i64 0, .int .i64 0, .int .i64 0, .int .i64 0, .int .i64 0] 83)).alloc (.cells #[.int .i64 0, .int .i64 0, .int .i64 0, .int .i64 0, .int .i64 0] 80)).alloc (.cells #[.int .i64 f, .int .i64 r, .int .i64 o, .int .i64 s, .int .i64 wt] 83)) = w1 at *
  obtain ⟨c0, c1, c2, c3, c4⟩ := hX.b.p.five
  obtain ⟨d0, d1, d2, d3, d4⟩ := hX.v.five
  obtain ⟨f0, f1, f2, f3, f4⟩ := hX.v.fiveF
  go_wp2_with (first | (go_at_call 121; refine (ref_in _ _ (by decide) _).mono ?_; rintro e w9 ⟨rfl, hb⟩; (first | rw [in_ia, HI.out]); have hX := hX.below hb; clear c0 c1 c2 c3 c4 d0 d1 d2 d3 d4 f0 f1 f2 f3 f4; obtain ⟨c0, c1, c2, c3, c4⟩ := hX.b.p.five; obtain ⟨d0, d1, d2, d3, d4⟩ := hX.v.five; obtain ⟨f0, f1, f2, f3, f4⟩ := hX.v.fiveF) | (go_at_call 167; refine (take_done _ _ _ _ _ _ _ _ _ hX.b.p b1 b2 b3 b4).mono ?_; rintro e w9 ⟨rfl, hb⟩; have hX := hX.below hb; obtain ⟨k0, k1, k2, k3, k4⟩ := hX.b.q.five; obtain ⟨l0, l1, l2, l3, l4⟩ := hX.b.q.fiveF; obtain ⟨m0, m1, m2, m3, m4⟩ := hX.b.c.five; obtain ⟨n0, n1, n2, n3, n4⟩ := hX.b.c.fiveF))
  obtain ⟨hq, hc, hbel⟩ := hX.b.done (.int .i64 (0)) (.int .i64 (0)) (.int .i64 (0)) (.int .i64 (0)) (.int .i64 (0)) (.int .i64 (totV f s)) (.int .i64 (r)) (.int .i64 (o)) (.int .i64 (wt)) (.int .i64 (key)) rfl
  obtain ⟨y0, y1, y2, y3, y4⟩ := hq.five
  obtain ⟨z0, z1, z2, z3, z4⟩ := hc.five
  exact bodyPost_ret (v := .tuple #[(TK.done f r o s wt key).q, (TK.done f r o s wt key).c, .int .i64 2]) (by simp [results, Try.results119, go_sem, TK.done, TK.q, TK.c, y0, y1, y2, y3, y4, z0, z1, z2, z3, z4]) rfl (RefPost.of hbel)

set_option maxRecDepth 100000 in
set_option maxHeartbeats 8000000 in
theorem ref_take_d1o (f r o s key : Int) (w : World) (hp : partE f r o s 0 = 0) (hu : Usual key) (hdg : decide (49 ≤ key ∧ key ≤ 57) = true) (hr1 : 49 ≤ key) (hr2 : key ≤ 57) (ho : (o != 0) = true) (ho' : (o == 0) = false) :
    Calls Try.prog 119 #[.agg #[.int .i64 f, .int .i64 r, .int .i64 o, .int .i64 s, .int .i64 0], .int .i64 key] w (RefPost (TK.more (f) (r) (o) (cntV s key) (0)) w) := by
  have hmf : ∀ (fn : Fn) (first cap : Array Value) (w : World), (Instr.makeFunc fn first cap).run Try.prog w = .ok (.func fn first cap) w := fun _ _ _ _ => rfl
  have hX := Box4.start w f r o s 0
  obtain ⟨b1, b2, b3, b4, b5⟩ := part_ok hp
  clear hp b5
  have u1 : 32 ≤ key := by unfold Usual at hu; omega
  have u2 : (key == 127) = false := by unfold Usual at hu; simp; omega
  clear hu
  have HI0 := Lib.hid (show iaB 0 = false by decide)
  have HDG := Lib.hid (show decide (49 ≤ key ∧ key ≤ 57) = true from hdg)
  clear hdg
  have HE := Lib.hid (Box4.start w f r o s 0)
  go_enter Try.func119, Try.ntmps119
  go_upto_region 5 with fail
  generalize ((((w.alloc (.cells #[.int .i64 f, .int .i64 r, .int .i64 o, .int .i64 s, .int .i64 0] 83)).alloc (.cells #[.int .i64 0, .int .i64 0, .int .i64 0, .int .i64 0, .int .i64 0] 83)).alloc (.cells #[.int .i64 0, .int .i64 0, .int .i64 0, .int .i64 0, .int .i64 0] 80)).alloc (.cells #[.int .i64 f, .int .i64 r, .int .i64 o, .int .i64 s, .int .i64 0] 83)) = w1 at *
  obtain ⟨c0, c1, c2, c3, c4⟩ := hX.b.p.five
  obtain ⟨d0, d1, d2, d3, d4⟩ := hX.v.five
  obtain ⟨f0, f1, f2, f3, f4⟩ := hX.v.fiveF
  go_wp2_with (first | (go_at_call 121; refine (ref_in _ _ (by decide) _).mono ?_; rintro e w9 ⟨rfl, hb⟩; (first | rw [in_ia, HI0.out] | rw [in_dg, HDG.out]); have hX := hX.below hb; clear c0 c1 c2 c3 c4 d0 d1 d2 d3 d4 f0 f1 f2 f3 f4; obtain ⟨c0, c1, c2, c3, c4⟩ := hX.b.p.five; obtain ⟨d0, d1, d2, d3, d4⟩ := hX.v.five; obtain ⟨f0, f1, f2, f3, f4⟩ := hX.v.fiveF) | (go_at_call 169; rw [cnt_if]; refine (take_more _ _ _ _ _ _).mono ?_; rintro e w9 ⟨rfl, hb⟩; have hX := (hX.setv (u0 := f) (u1 := r) (u2 := o) (u3 := cntV s key) (u4 := 0) 3 (.int .i64 (cntV s key)) rfl).below hb; obtain ⟨k0, k1, k2, k3, k4⟩ := hX.b.q.five; obtain ⟨l0, l1, l2, l3, l4⟩ := hX.b.q.fiveF; obtain ⟨m0, m1, m2, m3, m4⟩ := hX.b.c.five; obtain ⟨n0, n1, n2, n3, n4⟩ := hX.b.c.fiveF))
  obtain ⟨hq, hc, hbel⟩ := hX.b.done (.int .i64 (f)) (.int .i64 (r)) (.int .i64 (o)) (.int .i64 (cntV s key)) (.int .i64 (0)) (.int .i64 (0)) (.int .i64 (0)) (.int .i64 (0)) (.int .i64 (0)) (.int .i64 (0)) rfl
  obtain ⟨y0, y1, y2, y3, y4⟩ := hq.five
  obtain ⟨z0, z1, z2, z3, z4⟩ := hc.five
  exact bodyPost_ret (v := .tuple #[(TK.more (f) (r) (o) (cntV s key) (0)).q, (TK.more (f) (r) (o) (cntV s key) (0)).c, .int .i64 1]) (by simp [results, Try.results119, go_sem, TK.more, TK.q, TK.c, y0, y1, y2, y3, y4, z0, z1, z2, z3, z4]) rfl (RefPost.of hbel)

set_option maxRecDepth 100000 in
set_option maxHeartbeats 8000000 in
theorem ref_take_d2o (f r o s : Int) (w : World) (hp : partE f r o s 0 = 0) (hr2 : 0 < s) (ho : (o != 0) = true) (ho' : (o == 0) = false) :
    Calls Try.prog 119 #[.agg #[.int .i64 f, .int .i64 r, .int .i64 o, .int .i64 s, .int .i64 0], .int .i64 48] w (RefPost (TK.more (f) (r) (o) (cntV s 48) (0)) w) := by
  have hmf : ∀ (fn : Fn) (first cap : Array Value) (w : World), (Instr.makeFunc fn first cap).run Try.prog w = .ok (.func fn first cap) w := fun _ _ _ _ => rfl
  have hX := Box4.start w f r o s 0
  obtain ⟨b1, b2, b3, b4, b5⟩ := part_ok hp
  clear hp b5

  have HI0 := Lib.hid (show iaB 0 = false by decide)
  have HE := Lib.hid (Box4.start w f r o s 0)
  go_enter Try.func119, Try.ntmps119
  go_upto_region 5 with fail
  generalize ((((w.alloc (.cells #[.int .i64 f, .int .i64 r, .int .i64 o, .int .i64 s, .int .i64 0] 83)).alloc (.cells #[.int .i64 0, .int .i64 0, .int .i64 0, .int .i64 0, .int .i64 0] 83)).alloc (.cells #[.int .i64 0, .int .i64 0, .int .i64 0, .int .i64 0, .int .i64 0] 80)).alloc (.cells #[.int .i64 f, .int .i64 r, .int .i64 o, .int .i64 s, .int .i64 0] 83)) = w1 at *
  obtain ⟨c0, c1, c2, c3, c4⟩ := hX.b.p.five
  obtain ⟨d0, d1, d2, d3, d4⟩ := hX.v.five
  obtain ⟨f0, f1, f2, f3, f4⟩ := hX.v.fiveF
  go_wp2_with (first | (go_at_call 121; refine (ref_in _ _ (by decide) _).mono ?_; rintro e w9 ⟨rfl, hb⟩; (first | rw [in_ia, HI0.out] | rw [in_dg48]); have hX := hX.below hb; clear c0 c1 c2 c3 c4 d0 d1 d2 d3 d4 f0 f1 f2 f3 f4; obtain ⟨c0, c1, c2, c3, c4⟩ := hX.b.p.five; obtain ⟨d0, d1, d2, d3, d4⟩ := hX.v.five; obtain ⟨f0, f1, f2, f3, f4⟩ := hX.v.fiveF) | (go_at_call 169; rw [cnt_if48]; refine (take_more _ _ _ _ _ _).mono ?_; rintro e w9 ⟨rfl, hb⟩; have hX := (hX.setv (u0 := f) (u1 := r) (u2 := o) (u3 := cntV s 48) (u4 := 0) 3 (.int .i64 (cntV s 48)) rfl).below hb; obtain ⟨k0, k1, k2, k3, k4⟩ := hX.b.q.five; obtain ⟨l0, l1, l2, l3, l4⟩ := hX.b.q.fiveF; obtain ⟨m0, m1, m2, m3, m4⟩ := hX.b.c.five; obtain ⟨n0, n1, n2, n3, n4⟩ := hX.b.c.fiveF))
  obtain ⟨hq, hc, hbel⟩ := hX.b.done (.int .i64 (f)) (.int .i64 (r)) (.int .i64 (o)) (.int .i64 (cntV s 48)) (.int .i64 (0)) (.int .i64 (0)) (.int .i64 (0)) (.int .i64 (0)) (.int .i64 (0)) (.int .i64 (0)) rfl
  obtain ⟨y0, y1, y2, y3, y4⟩ := hq.five
  obtain ⟨z0, z1, z2, z3, z4⟩ := hc.five
  exact bodyPost_ret (v := .tuple #[(TK.more (f) (r) (o) (cntV s 48) (0)).q, (TK.more (f) (r) (o) (cntV s 48) (0)).c, .int .i64 1]) (by simp [results, Try.results119, go_sem, TK.more, TK.q, TK.c, y0, y1, y2, y3, y4, z0, z1, z2, z3, z4]) rfl (RefPost.of hbel)

set_option maxRecDepth 100000 in
set_option maxHeartbeats 8000000 in
theorem ref_take_d1z (f r o s key : Int) (w : World) (hp : partE f r o s 0 = 0) (hu : Usual key) (hdg : decide (49 ≤ key ∧ key ≤ 57) = true) (hr1 : 49 ≤ key) (hr2 : key ≤ 57) (ho : (o != 0) = false) (ho' : (o == 0) = true) :
    Calls Try.prog 119 #[.agg #[.int .i64 f, .int .i64 r, .int .i64 o, .int .i64 s, .int .i64 0], .int .i64 key] w (RefPost (TK.more (cntV f key) (r) (o) (s) (0)) w) := by
  have hmf : ∀ (fn : Fn) (first cap : Array Value) (w : World), (Instr.makeFunc fn first cap).run Try.prog w = .ok (.func fn first cap) w := fun _ _ _ _ => rfl
  have hX := Box4.start w f r o s 0
  obtain ⟨b1, b2, b3, b4, b5⟩ := part_ok hp
  clear hp b5
  have u1 : 32 ≤ key := by unfold Usual at hu; omega
  have u2 : (key == 127) = false := by unfold Usual at hu; simp; omega
  clear hu
  have HI0 := Lib.hid (show iaB 0 = false by decide)
  have HDG := Lib.hid (show decide (49 ≤ key ∧ key ≤ 57) = true from hdg)
  clear hdg
  have HE := Lib.hid (Box4.start w f r o s 0)
  go_enter Try.func119, Try.ntmps119
  go_upto_region 5 with fail
  generalize ((((w.alloc (.cells #[.int .i64 f, .int .i64 r, .int .i64 o, .int .i64 s, .int .i64 0] 83)).alloc (.cells #[.int .i64 0, .int .i64 0, .int .i64 0, .int .i64 0, .int .i64 0] 83)).alloc (.cells #[.int .i64 0, .int .i64 0, .int .i64 0, .int .i64 0, .int .i64 0] 80)).alloc (.cells #[.int .i64 f, .int .i64 r, .int .i64 o, .int .i64 s, .int .i64 0] 83)) = w1 at *
  obtain ⟨c0, c1, c2, c3, c4⟩ := hX.b.p.five
  obtain ⟨d0, d1, d2, d3, d4⟩ := hX.v.five
  obtain ⟨f0, f1, f2, f3, f4⟩ := hX.v.fiveF
  go_wp2_with (first | (go_at_call 121; refine (ref_in _ _ (by decide) _).mono ?_; rintro e w9 ⟨rfl, hb⟩; (first | rw [in_ia, HI0.out] | rw [in_dg, HDG.out]); have hX := hX.below hb; clear c0 c1 c2 c3 c4 d0 d1 d2 d3 d4 f0 f1 f2 f3 f4; obtain ⟨c0, c1, c2, c3, c4⟩ := hX.b.p.five; obtain ⟨d0, d1, d2, d3, d4⟩ := hX.v.five; obtain ⟨f0, f1, f2, f3, f4⟩ := hX.v.fiveF) | (go_at_call 169; rw [cnt_if]; refine (take_more _ _ _ _ _ _).mono ?_; rintro e w9 ⟨rfl, hb⟩; have hX := (hX.setv (u0 := cntV f key) (u1 := r) (u2 := o) (u3 := s) (u4 := 0) 0 (.int .i64 (cntV f key)) rfl).below hb; obtain ⟨k0, k1, k2, k3, k4⟩ := hX.b.q.five; obtain ⟨l0, l1, l2, l3, l4⟩ := hX.b.q.fiveF; obtain ⟨m0, m1, m2, m3, m4⟩ := hX.b.c.five; obtain ⟨n0, n1, n2, n3, n4⟩ := hX.b.c.fiveF))
  obtain ⟨hq, hc, hbel⟩ := hX.b.done (.int .i64 (cntV f key)) (.int .i64 (r)) (.int .i64 (o)) (.int .i64 (s)) (.int .i64 (0)) (.int .i64 (0)) (.int .i64 (0)) (.int .i64 (0)) (.int .i64 (0)) (.int .i64 (0)) rfl
  obtain ⟨y0, y1, y2, y3, y4⟩ := hq.five
  obtain ⟨z0, z1, z2, z3, z4⟩ := hc.five
  exact bodyPost_ret (v := .tuple #[(TK.more (cntV f key) (r) (o) (s) (0)).q, (TK.more (cntV f key) (r) (o) (s) (0)).c, .int .i64 1]) (by simp [results, Try.results119, go_sem, TK.more, TK.q, TK.c, y0, y1, y2, y3, y4, z0, z1, z2, z3, z4]) rfl (RefPost.of hbel)

set_option maxRecDepth 100000 in
set_option maxHeartbeats 8000000 in
theorem ref_take_d2z (f r o s : Int) (w : World) (hp : partE f r o s 0 = 0) (hr2 : 0 < f) (ho : (o != 0) = false) (ho' : (o == 0) = true) :
    Calls Try.prog 119 #[.agg #[.int .i64 f, .int .i64 r, .int .i64 o, .int .i64 s, .int .i64 0], .int .i64 48] w (RefPost (TK.more (cntV f 48) (r) (o) (s) (0)) w) := by
  have hmf : ∀ (fn : Fn) (first cap : Array Value) (w : World), (Instr.makeFunc fn first cap).run Try.prog w = .ok (.func fn first cap) w := fun _ _ _ _ => rfl
  have hX := Box4.start w f r o s 0
  obtain ⟨b1, b2, b3, b4, b5⟩ := part_ok hp
  clear hp b5

  have HI0 := Lib.hid (show iaB 0 = false by decide)
  have HE := Lib.hid (Box4.start w f r o s 0)
  go_enter Try.func119, Try.ntmps119
  go_upto_region 5 with fail
  generalize ((((w.alloc (.cells #[.int .i64 f, .int .i64 r, .int .i64 o, .int .i64 s, .int .i64 0] 83)).alloc (.cells #[.int .i64 0, .int .i64 0, .int .i64 0, .int .i64 0, .int .i64 0] 83)).alloc (.cells #[.int .i64 0, .int .i64 0, .int .i64 0, .int .i64 0, .int .i64 0] 80)).alloc (.cells #[.int .i64 f, .int .i64 r, .int .i64 o, .int .i64 s, .int .i64 0] 83)) = w1 at *
  obtain ⟨c0, c1, c2, c3, c4⟩ := hX.b.p.five
  obtain ⟨d0, d1, d2, d3, d4⟩ := hX.v.five
  obtain ⟨f0, f1, f2, f3, f4⟩ := hX.v.fiveF
  go_wp2_with (first | (go_at_call 121; refine (ref_in _ _ (by decide) _).mono ?_; rintro e w9 ⟨rfl, hb⟩; (first | rw [in_ia, HI0.out] | rw [in_dg48]); have hX := hX.below hb; clear c0 c1 c2 c3 c4 d0 d1 d2 d3 d4 f0 f1 f2 f3 f4; obtain ⟨c0, c1, c2, c3, c4⟩ := hX.b.p.five; obtain ⟨d0, d1, d2, d3, d4⟩ := hX.v.five; obtain ⟨f0, f1, f2, f3, f4⟩ := hX.v.fiveF) | (go_at_call 169; rw [cnt_if48]; refine (take_more _ _ _ _ _ _).mono ?_; rintro e w9 ⟨rfl, hb⟩; have hX := (hX.setv (u0 := cntV f 48) (u1 := r) (u2 := o) (u3 := s) (u4 := 0) 0 (.int .i64 (cntV f 48)) rfl).below hb; obtain ⟨k0, k1, k2, k3, k4⟩ := hX.b.q.five; obtain ⟨l0, l1, l2, l3, l4⟩ := hX.b.q.fiveF; obtain ⟨m0, m1, m2, m3, m4⟩ := hX.b.c.five; obtain ⟨n0, n1, n2, n3, n4⟩ := hX.b.c.fiveF))
  obtain ⟨hq, hc, hbel⟩ := hX.b.done (.int .i64 (cntV f 48)) (.int .i64 (r)) (.int .i64 (o)) (.int .i64 (s)) (.int .i64 (0)) (.int .i64 (0)) (.int .i64 (0)) (.int .i64 (0)) (.int .i64 (0)) (.int .i64 (0)) rfl
  obtain ⟨y0, y1, y2, y3, y4⟩ := hq.five
  obtain ⟨z0, z1, z2, z3, z4⟩ := hc.five
  exact bodyPost_ret (v := .tuple #[(TK.more (cntV f 48) (r) (o) (s) (0)).q, (TK.more (cntV f 48) (r) (o) (s) (0)).c, .int .i64 1]) (by simp [results, Try.results119, go_sem, TK.more, TK.q, TK.c, y0, y1, y2, y3, y4, z0, z1, z2, z3, z4]) rfl (RefPost.of hbel)

end Go.Proofs.Ytmipnikhgihcpaa
