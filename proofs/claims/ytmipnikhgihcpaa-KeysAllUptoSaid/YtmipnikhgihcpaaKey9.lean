/- Contract of fairref.Take, by cases (9). -/
import Derived.Test.YtmipnikhgihcpaaKeyQ
namespace Go.Proofs.Ytmipnikhgihcpaa
open Go.RowKit
set_option linter.unusedVariables false
set_option linter.unusedSimpArgs false

set_option maxRecDepth 100000 in
set_option maxHeartbeats 8000000 in
theorem ref_take_op_z (f r o s key : Int) (w : World) (hp : partE f r o s 0 = 0) (hu : Usual key) (hdg : decide (49 ≤ key ∧ key ≤ 57) = false) (hop : opB key = true) (h48 : (key == 48) = false) (ho : (o != 0) = false) (ho' : (o == 0) = true) :
    Calls Try.prog 119 #[.agg #[.int .i64 f, .int .i64 r, .int .i64 o, .int .i64 s, .int .i64 0], .int .i64 key] w (RefPost (TK.more f r key s 0) w) := by
  have hmf : ∀ (fn : Fn) (first cap : Array Value) (w : World), (Instr.makeFunc fn first cap).run Try.prog w = .ok (.func fn first cap) w := fun _ _ _ _ => rfl
  have hX := Box4.start w f r o s 0
  obtain ⟨b1, b2, b3, b4, b5⟩ := part_ok hp
  clear hp b5
  have u1 : 32 ≤ key := by unfold Usual at hu; omega
  have u2 : (key == 127) = false := by unfold Usual at hu; simp; omega
  clear hu
  have HI0 := Lib.hid (show iaB 0 = false by decide)
  have HDG := Lib.hid (show decide (49 ≤ key ∧ key ≤ 57) = false from hdg)
  have HOP := Lib.hid (show opB key = true from hop)
  clear hdg hop
  have HE := Lib.hid (Box4.start w f r o s 0)
  go_enter Try.func119, Try.ntmps119
  go_upto_region 5 with fail
  generalize ((((w.alloc (.cells #[.int .i64 f, .int .i64 r, .int .i64 o, .int .i64 s, .int .i64 0] 83)).alloc (.cells #[.int .i64 0, .int .i64 0, .int .i64 0, .int .i64 0, .int .i64 0] 83)).alloc (.cells #[.int .i64 0, .int .i64 0, .int .i64 0, .int .i64 0, .int .i64 0] 80)).alloc (.cells #[.int .i64 f, .int .i64 r, .int .i64 o, .int .i64 s, .int .i64 0] 83)) = w1 at *
  obtain ⟨c0, c1, c2, c3, c4⟩ := hX.b.p.five
  obtain ⟨d0, d1, d2, d3, d4⟩ := hX.v.five
  obtain ⟨f0, f1, f2, f3, f4⟩ := hX.v.fiveF
  go_wp2_with (first | (go_at_call 121; refine (ref_in _ _ (by decide) _).mono ?_; rintro e w9 ⟨rfl, hb⟩; (first | rw [in_ia, HI0.out] | rw [in_dg, HDG.out] | rw [in_op, HOP.out]); have hX := hX.below hb; clear c0 c1 c2 c3 c4 d0 d1 d2 d3 d4 f0 f1 f2 f3 f4; obtain ⟨c0, c1, c2, c3, c4⟩ := hX.b.p.five; obtain ⟨d0, d1, d2, d3, d4⟩ := hX.v.five; obtain ⟨f0, f1, f2, f3, f4⟩ := hX.v.fiveF) | (go_at_call 169; refine (take_more _ _ _ _ _ _).mono ?_; rintro e w9 ⟨rfl, hb⟩; have hX := (hX.setv (u0 := f) (u1 := r) (u2 := key) (u3 := s) (u4 := 0) 2 (.int .i64 key) rfl).below hb; obtain ⟨k0, k1, k2, k3, k4⟩ := hX.b.q.five; obtain ⟨l0, l1, l2, l3, l4⟩ := hX.b.q.fiveF; obtain ⟨m0, m1, m2, m3, m4⟩ := hX.b.c.five; obtain ⟨n0, n1, n2, n3, n4⟩ := hX.b.c.fiveF))
  obtain ⟨hq, hc, hbel⟩ := hX.b.done (.int .i64 (f)) (.int .i64 (r)) (.int .i64 (key)) (.int .i64 (s)) (.int .i64 (0)) (.int .i64 (0)) (.int .i64 (0)) (.int .i64 (0)) (.int .i64 (0)) (.int .i64 (0)) rfl
  obtain ⟨y0, y1, y2, y3, y4⟩ := hq.five
  obtain ⟨z0, z1, z2, z3, z4⟩ := hc.five
  exact bodyPost_ret (v := .tuple #[(TK.more (f) (r) (key) (s) (0)).q, (TK.more (f) (r) (key) (s) (0)).c, .int .i64 1]) (by simp [results, Try.results119, go_sem, TK.more, TK.q, TK.c, y0, y1, y2, y3, y4, z0, z1, z2, z3, z4]) rfl (RefPost.of hbel)

set_option maxRecDepth 100000 in
set_option maxHeartbeats 8000000 in
theorem ref_take_op_y (f r o s key : Int) (w : World) (hp : partE f r o s 0 = 0) (hu : Usual key) (hdg : decide (49 ≤ key ∧ key ≤ 57) = false) (hop : opB key = true) (h48 : (key == 48) = false) (ho : (o != 0) = true) (ho' : (o == 0) = false) (hk : (o == key) = true) :
    Calls Try.prog 119 #[.agg #[.int .i64 f, .int .i64 r, .int .i64 o, .int .i64 s, .int .i64 0], .int .i64 key] w (RefPost (TK.done f r o s key 0) w) := by
  have hmf : ∀ (fn : Fn) (first cap : Array Value) (w : World), (Instr.makeFunc fn first cap).run Try.prog w = .ok (.func fn first cap) w := fun _ _ _ _ => rfl
  have hX := Box4.start w f r o s 0
  obtain ⟨b1, b2, b3, b4, b5⟩ := part_ok hp
  clear hp b5
  have u1 : 32 ≤ key := by unfold Usual at hu; omega
  have u2 : (key == 127) = false := by unfold Usual at hu; simp; omega
  clear hu
  have HI0 := Lib.hid (show iaB 0 = false by decide)
  have HDG := Lib.hid (show decide (49 ≤ key ∧ key ≤ 57) = false from hdg)
  have HOP := Lib.hid (show opB key = true from hop)
  clear hdg hop
  have HE := Lib.hid (Box4.start w f r o s 0)
  go_enter Try.func119, Try.ntmps119
  go_upto_region 5 with fail
  generalize ((((w.alloc (.cells #[.int .i64 f, .int .i64 r, .int .i64 o, .int .i64 s, .int .i64 0] 83)).alloc (.cells #[.int .i64 0, .int .i64 0, .int .i64 0, .int .i64 0, .int .i64 0] 83)).alloc (.cells #[.int .i64 0, .int .i64 0, .int .i64 0, .int .i64 0, .int .i64 0] 80)).alloc (.cells #[.int .i64 f, .int .i64 r, .int .i64 o, .int .i64 s, .int .i64 0] 83)) = w1 at *
  obtain ⟨c0, c1, c2, c3, c4⟩ := hX.b.p.five
  obtain ⟨d0, d1, d2, d3, d4⟩ := hX.v.five
  obtain ⟨f0, f1, f2, f3, f4⟩ := hX.v.fiveF
  go_wp2_with (first | (go_at_call 121; refine (ref_in _ _ (by decide) _).mono ?_; rintro e w9 ⟨rfl, hb⟩; (first | rw [in_ia, HI0.out] | rw [in_dg, HDG.out] | rw [in_op, HOP.out]); have hX := hX.below hb; clear c0 c1 c2 c3 c4 d0 d1 d2 d3 d4 f0 f1 f2 f3 f4; obtain ⟨c0, c1, c2, c3, c4⟩ := hX.b.p.five; obtain ⟨d0, d1, d2, d3, d4⟩ := hX.v.five; obtain ⟨f0, f1, f2, f3, f4⟩ := hX.v.fiveF) | (go_at_call 167; refine (take_done _ _ _ _ _ _ _ _ _ hX.b.p b1 b2 b3 b4).mono ?_; rintro e w9 ⟨rfl, hb⟩; have hX := hX.below hb; obtain ⟨k0, k1, k2, k3, k4⟩ := hX.b.q.five; obtain ⟨l0, l1, l2, l3, l4⟩ := hX.b.q.fiveF; obtain ⟨m0, m1, m2, m3, m4⟩ := hX.b.c.five; obtain ⟨n0, n1, n2, n3, n4⟩ := hX.b.c.fiveF))
  obtain ⟨hq, hc, hbel⟩ := hX.b.done (.int .i64 (0)) (.int .i64 (0)) (.int .i64 (0)) (.int .i64 (0)) (.int .i64 (0)) (.int .i64 (totV f s)) (.int .i64 (r)) (.int .i64 (o)) (.int .i64 (key)) (.int .i64 (0)) rfl
  obtain ⟨y0, y1, y2, y3, y4⟩ := hq.five
  obtain ⟨z0, z1, z2, z3, z4⟩ := hc.five
  exact bodyPost_ret (v := .tuple #[(TK.done f r o s key 0).q, (TK.done f r o s key 0).c, .int .i64 2]) (by simp [results, Try.results119, go_sem, TK.done, TK.q, TK.c, y0, y1, y2, y3, y4, z0, z1, z2, z3, z4]) rfl (RefPost.of hbel)

set_option maxRecDepth 100000 in
set_option maxHeartbeats 8000000 in
theorem ref_take_op_n (f r o s key : Int) (w : World) (hp : partE f r o s 0 = 0) (hu : Usual key) (hdg : decide (49 ≤ key ∧ key ≤ 57) = false) (hop : opB key = true) (hmo : moB key = false) (hfi : fiB key = false) (hia : iaB key = false) (h48 : (key == 48) = false) (ho : (o != 0) = true) (ho' : (o == 0) = false) (hk : (o == key) = false) :
    Calls Try.prog 119 #[.agg #[.int .i64 f, .int .i64 r, .int .i64 o, .int .i64 s, .int .i64 0], .int .i64 key] w (RefPost (TK.wrong) w) := by
  have hmf : ∀ (fn : Fn) (first cap : Array Value) (w : World), (Instr.makeFunc fn first cap).run Try.prog w = .ok (.func fn first cap) w := fun _ _ _ _ => rfl
  have hX := Box4.start w f r o s 0
  obtain ⟨b1, b2, b3, b4, b5⟩ := part_ok hp
  clear hp b5
  have u1 : 32 ≤ key := by unfold Usual at hu; omega
  have u2 : (key == 127) = false := by unfold Usual at hu; simp; omega
  clear hu
  have HI0 := Lib.hid (show iaB 0 = false by decide)
  have HDG := Lib.hid (show decide (49 ≤ key ∧ key ≤ 57) = false from hdg)
  have HOP := Lib.hid (show opB key = true from hop)
  have HMO := Lib.hid (show moB key = false from hmo)
  have HFI := Lib.hid (show fiB key = false from hfi)
  have HIA := Lib.hid (show iaB key = false from hia)
  clear hdg hop hmo hfi hia
  have HE := Lib.hid (Box4.start w f r o s 0)
  go_enter Try.func119, Try.ntmps119
  go_upto_region 5 with fail
  generalize ((((w.alloc (.cells #[.int .i64 f, .int .i64 r, .int .i64 o, .int .i64 s, .int .i64 0] 83)).alloc (.cells #[.int .i64 0, .int .i64 0, .int .i64 0, .int .i64 0, .int .i64 0] 83)).alloc (.cells #[.int .i64 0, .int .i64 0, .int .i64 0, .int .i64 0, .int .i64 0] 80)).alloc (.cells #[.int .i64 f, .int .i64 r, .int .i64 o, .int .i64 s, .int .i64 0] 83)) = w1 at *
  obtain ⟨c0, c1, c2, c3, c4⟩ := hX.b.p.five
  obtain ⟨d0, d1, d2, d3, d4⟩ := hX.v.five
  obtain ⟨f0, f1, f2, f3, f4⟩ := hX.v.fiveF
  go_wp2_with (first | (go_at_call 121; refine (ref_in _ _ (by decide) _).mono ?_; rintro e w9 ⟨rfl, hb⟩; (first | rw [in_ia, HI0.out] | rw [in_dg, HDG.out] | rw [in_op, HOP.out] | rw [in_mo, HMO.out] | rw [in_fi, HFI.out] | rw [in_ia, HIA.out]); have hX := hX.below hb; clear c0 c1 c2 c3 c4 d0 d1 d2 d3 d4 f0 f1 f2 f3 f4; obtain ⟨c0, c1, c2, c3, c4⟩ := hX.b.p.five; obtain ⟨d0, d1, d2, d3, d4⟩ := hX.v.five; obtain ⟨f0, f1, f2, f3, f4⟩ := hX.v.fiveF) | (go_at_call 166; refine (take_wrong _).mono ?_; rintro e w9 ⟨rfl, hb⟩; have hX := hX.below hb; obtain ⟨k0, k1, k2, k3, k4⟩ := hX.b.q.five; obtain ⟨l0, l1, l2, l3, l4⟩ := hX.b.q.fiveF; obtain ⟨m0, m1, m2, m3, m4⟩ := hX.b.c.five; obtain ⟨n0, n1, n2, n3, n4⟩ := hX.b.c.fiveF))
  obtain ⟨hq, hc, hbel⟩ := hX.b.done (.int .i64 (0)) (.int .i64 (0)) (.int .i64 (0)) (.int .i64 (0)) (.int .i64 (0)) (.int .i64 (0)) (.int .i64 (0)) (.int .i64 (0)) (.int .i64 (0)) (.int .i64 (0)) rfl
  obtain ⟨y0, y1, y2, y3, y4⟩ := hq.five
  obtain ⟨z0, z1, z2, z3, z4⟩ := hc.five
  exact bodyPost_ret (v := .tuple #[(TK.wrong).q, (TK.wrong).c, .int .i64 3]) (by simp [results, Try.results119, go_sem, TK.wrong, TK.q, TK.c, y0, y1, y2, y3, y4, z0, z1, z2, z3, z4]) rfl (RefPost.of hbel)

set_option maxRecDepth 100000 in
set_option maxHeartbeats 8000000 in
theorem ref_take_mo_z (f r o s key : Int) (w : World) (hp : partE f r o s 0 = 0) (hu : Usual key) (hdg : decide (49 ≤ key ∧ key ≤ 57) = false) (hop : opB key = false) (hmo : moB key = true) (h48 : (key == 48) = false) (ho : (o != 0) = false) (ho' : (o == 0) = true) :
    Calls Try.prog 119 #[.agg #[.int .i64 f, .int .i64 r, .int .i64 o, .int .i64 s, .int .i64 0], .int .i64 key] w (RefPost (TK.done f r o s key 0) w) := by
  have hmf : ∀ (fn : Fn) (first cap : Array Value) (w : World), (Instr.makeFunc fn first cap).run Try.prog w = .ok (.func fn first cap) w := fun _ _ _ _ => rfl
  have hX := Box4.start w f r o s 0
  obtain ⟨b1, b2, b3, b4, b5⟩ := part_ok hp
  clear hp b5
  have u1 : 32 ≤ key := by unfold Usual at hu; omega
  have u2 : (key == 127) = false := by unfold Usual at hu; simp; omega
  clear hu
  have HI0 := Lib.hid (show iaB 0 = false by decide)
  have HDG := Lib.hid (show decide (49 ≤ key ∧ key ≤ 57) = false from hdg)
  have HOP := Lib.hid (show opB key = false from hop)
  have HMO := Lib.hid (show moB key = true from hmo)
  clear hdg hop hmo
  have HE := Lib.hid (Box4.start w f r o s 0)
  go_enter Try.func119, Try.ntmps119
  go_upto_region 5 with fail
  generalize ((((w.alloc (.cells #[.int .i64 f, .int .i64 r, .int .i64 o, .int .i64 s, .int .i64 0] 83)).alloc (.cells #[.int .i64 0, .int .i64 0, .int .i64 0, .int .i64 0, .int .i64 0] 83)).alloc (.cells #[.int .i64 0, .int .i64 0, .int .i64 0, .int .i64 0, .int .i64 0] 80)).alloc (.cells #[.int .i64 f, .int .i64 r, .int .i64 o, .int .i64 s, .int .i64 0] 83)) = w1 at *
  obtain ⟨c0, c1, c2, c3, c4⟩ := hX.b.p.five
  obtain ⟨d0, d1, d2, d3, d4⟩ := hX.v.five
  obtain ⟨f0, f1, f2, f3, f4⟩ := hX.v.fiveF
  go_wp2_with (first | (go_at_call 121; refine (ref_in _ _ (by decide) _).mono ?_; rintro e w9 ⟨rfl, hb⟩; (first | rw [in_ia, HI0.out] | rw [in_dg, HDG.out] | rw [in_op, HOP.out] | rw [in_mo, HMO.out]); have hX := hX.below hb; clear c0 c1 c2 c3 c4 d0 d1 d2 d3 d4 f0 f1 f2 f3 f4; obtain ⟨c0, c1, c2, c3, c4⟩ := hX.b.p.five; obtain ⟨d0, d1, d2, d3, d4⟩ := hX.v.five; obtain ⟨f0, f1, f2, f3, f4⟩ := hX.v.fiveF) | (go_at_call 167; refine (take_done _ _ _ _ _ _ _ _ _ hX.b.p b1 b2 b3 b4).mono ?_; rintro e w9 ⟨rfl, hb⟩; have hX := hX.below hb; obtain ⟨k0, k1, k2, k3, k4⟩ := hX.b.q.five; obtain ⟨l0, l1, l2, l3, l4⟩ := hX.b.q.fiveF; obtain ⟨m0, m1, m2, m3, m4⟩ := hX.b.c.five; obtain ⟨n0, n1, n2, n3, n4⟩ := hX.b.c.fiveF))
  obtain ⟨hq, hc, hbel⟩ := hX.b.done (.int .i64 (0)) (.int .i64 (0)) (.int .i64 (0)) (.int .i64 (0)) (.int .i64 (0)) (.int .i64 (totV f s)) (.int .i64 (r)) (.int .i64 (o)) (.int .i64 (key)) (.int .i64 (0)) rfl
  obtain ⟨y0, y1, y2, y3, y4⟩ := hq.five
  obtain ⟨z0, z1, z2, z3, z4⟩ := hc.five
  exact bodyPost_ret (v := .tuple #[(TK.done f r o s key 0).q, (TK.done f r o s key 0).c, .int .i64 2]) (by simp [results, Try.results119, go_sem, TK.done, TK.q, TK.c, y0, y1, y2, y3, y4, z0, z1, z2, z3, z4]) rfl (RefPost.of hbel)

set_option maxRecDepth 100000 in
set_option maxHeartbeats 8000000 in
theorem ref_take_mz_z (f r o s key : Int) (w : World) (hp : partE f r o s 0 = 0) (hu : Usual key) (hdg : decide (49 ≤ key ∧ key ≤ 57) = false) (hop : opB key = false) (hmo : moB key = true) (h48 : (key == 48) = true) (hcn : f ≤ 0) (ho : (o != 0) = false) (ho' : (o == 0) = true) :
    Calls Try.prog 119 #[.agg #[.int .i64 f, .int .i64 r, .int .i64 o, .int .i64 s, .int .i64 0], .int .i64 key] w (RefPost (TK.done f r o s key 0) w) := by
  have hmf : ∀ (fn : Fn) (first cap : Array Value) (w : World), (Instr.makeFunc fn first cap).run Try.prog w = .ok (.func fn first cap) w := fun _ _ _ _ => rfl
  have hX := Box4.start w f r o s 0
  obtain ⟨b1, b2, b3, b4, b5⟩ := part_ok hp
  clear hp b5
  have u1 : 32 ≤ key := by unfold Usual at hu; omega
  have u2 : (key == 127) = false := by unfold Usual at hu; simp; omega
  clear hu
  have HI0 := Lib.hid (show iaB 0 = false by decide)
  have HDG := Lib.hid (show decide (49 ≤ key ∧ key ≤ 57) = false from hdg)
  have HOP := Lib.hid (show opB key = false from hop)
  have HMO := Lib.hid (show moB key = true from hmo)
  clear hdg hop hmo
  have HE := Lib.hid (Box4.start w f r o s 0)
  go_enter Try.func119, Try.ntmps119
  go_upto_region 5 with fail
  generalize ((((w.alloc (.cells #[.int .i64 f, .int .i64 r, .int .i64 o, .int .i64 s, .int .i64 0] 83)).alloc (.cells #[.int .i64 0, .int .i64 0, .int .i64 0, .int .i64 0, .int .i64 0] 83)).alloc (.cells #[.int .i64 0, .int .i64 0, .int .i64 0, .int .i64 0, .int .i64 0] 80)).alloc (.cells #[.int .i64 f, .int .i64 r, .int .i64 o, .int .i64 s, .int .i64 0] 83)) = w1 at *
  obtain ⟨c0, c1, c2, c3, c4⟩ := hX.b.p.five
  obtain ⟨d0, d1, d2, d3, d4⟩ := hX.v.five
  obtain ⟨f0, f1, f2, f3, f4⟩ := hX.v.fiveF
  go_wp2_with (first | (go_at_call 121; refine (ref_in _ _ (by decide) _).mono ?_; rintro e w9 ⟨rfl, hb⟩; (first | rw [in_ia, HI0.out] | rw [in_dg, HDG.out] | rw [in_op, HOP.out] | rw [in_mo, HMO.out]); have hX := hX.below hb; clear c0 c1 c2 c3 c4 d0 d1 d2 d3 d4 f0 f1 f2 f3 f4; obtain ⟨c0, c1, c2, c3, c4⟩ := hX.b.p.five; obtain ⟨d0, d1, d2, d3, d4⟩ := hX.v.five; obtain ⟨f0, f1, f2, f3, f4⟩ := hX.v.fiveF) | (go_at_call 167; refine (take_done _ _ _ _ _ _ _ _ _ hX.b.p b1 b2 b3 b4).mono ?_; rintro e w9 ⟨rfl, hb⟩; have hX := hX.below hb; obtain ⟨k0, k1, k2, k3, k4⟩ := hX.b.q.five; obtain ⟨l0, l1, l2, l3, l4⟩ := hX.b.q.fiveF; obtain ⟨m0, m1, m2, m3, m4⟩ := hX.b.c.five; obtain ⟨n0, n1, n2, n3, n4⟩ := hX.b.c.fiveF))
  obtain ⟨hq, hc, hbel⟩ := hX.b.done (.int .i64 (0)) (.int .i64 (0)) (.int .i64 (0)) (.int .i64 (0)) (.int .i64 (0)) (.int .i64 (totV f s)) (.int .i64 (r)) (.int .i64 (o)) (.int .i64 (key)) (.int .i64 (0)) rfl
  obtain ⟨y0, y1, y2, y3, y4⟩ := hq.five
  obtain ⟨z0, z1, z2, z3, z4⟩ := hc.five
  exact bodyPost_ret (v := .tuple #[(TK.done f r o s key 0).q, (TK.done f r o s key 0).c, .int .i64 2]) (by simp [results, Try.results119, go_sem, TK.done, TK.q, TK.c, y0, y1, y2, y3, y4, z0, z1, z2, z3, z4]) rfl (RefPost.of hbel)

set_option maxRecDepth 100000 in
set_option maxHeartbeats 8000000 in
theorem ref_take_fi_z (f r o s key : Int) (w : World) (hp : partE f r o s 0 = 0) (hu : Usual key) (hdg : decide (49 ≤ key ∧ key ≤ 57) = false) (hop : opB key = false) (hmo : moB key = false) (hfi : fiB key = true) (h48 : (key == 48) = false) (ho : (o != 0) = false) (ho' : (o == 0) = true) :
    Calls Try.prog 119 #[.agg #[.int .i64 f, .int .i64 r, .int .i64 o, .int .i64 s, .int .i64 0], .int .i64 key] w (RefPost (TK.more f r o s key) w) := by
  have hmf : ∀ (fn : Fn) (first cap : Array Value) (w : World), (Instr.makeFunc fn first cap).run Try.prog w = .ok (.func fn first cap) w := fun _ _ _ _ => rfl
  have hX := Box4.start w f r o s 0
  obtain ⟨b1, b2, b3, b4, b5⟩ := part_ok hp
  clear hp b5
  have u1 : 32 ≤ key := by unfold Usual at hu; omega
  have u2 : (key == 127) = false := by unfold Usual at hu; simp; omega
  clear hu
  have HI0 := Lib.hid (show iaB 0 = false by decide)
  have HDG := Lib.hid (show decide (49 ≤ key ∧ key ≤ 57) = false from hdg)
  have HOP := Lib.hid (show opB key = false from hop)
  have HMO := Lib.hid (show moB key = false from hmo)
  have HFI := Lib.hid (show fiB key = true from hfi)
  clear hdg hop hmo hfi
  have HE := Lib.hid (Box4.start w f r o s 0)
  go_enter Try.func119, Try.ntmps119
  go_upto_region 5 with fail
  generalize ((((w.alloc (.cells #[.int .i64 f, .int .i64 r, .int .i64 o, .int .i64 s, .int .i64 0] 83)).alloc (.cells #[.int .i64 0, .int .i64 0, .int .i64 0, .int .i64 0, .int .i64 0] 83)).alloc (.cells #[.int .i64 0, .int .i64 0, .int .i64 0, .int .i64 0, .int .i64 0] 80)).alloc (.cells #[.int .i64 f, .int .i64 r, .int .i64 o, .int .i64 s, .int .i64 0] 83)) = w1 at *
  obtain ⟨c0, c1, c2, c3, c4⟩ := hX.b.p.five
  obtain ⟨d0, d1, d2, d3, d4⟩ := hX.v.five
  obtain ⟨f0, f1, f2, f3, f4⟩ := hX.v.fiveF
  go_wp2_with (first | (go_at_call 121; refine (ref_in _ _ (by decide) _).mono ?_; rintro e w9 ⟨rfl, hb⟩; (first | rw [in_ia, HI0.out] | rw [in_dg, HDG.out] | rw [in_op, HOP.out] | rw [in_mo, HMO.out] | rw [in_fi, HFI.out]); have hX := hX.below hb; clear c0 c1 c2 c3 c4 d0 d1 d2 d3 d4 f0 f1 f2 f3 f4; obtain ⟨c0, c1, c2, c3, c4⟩ := hX.b.p.five; obtain ⟨d0, d1, d2, d3, d4⟩ := hX.v.five; obtain ⟨f0, f1, f2, f3, f4⟩ := hX.v.fiveF) | (go_at_call 169; refine (take_more _ _ _ _ _ _).mono ?_; rintro e w9 ⟨rfl, hb⟩; have hX := (hX.setv (u0 := f) (u1 := r) (u2 := o) (u3 := s) (u4 := key) 4 (.int .i64 key) rfl).below hb; obtain ⟨k0, k1, k2, k3, k4⟩ := hX.b.q.five; obtain ⟨l0, l1, l2, l3, l4⟩ := hX.b.q.fiveF; obtain ⟨m0, m1, m2, m3, m4⟩ := hX.b.c.five; obtain ⟨n0, n1, n2, n3, n4⟩ := hX.b.c.fiveF))
  obtain ⟨hq, hc, hbel⟩ := hX.b.done (.int .i64 (f)) (.int .i64 (r)) (.int .i64 (o)) (.int .i64 (s)) (.int .i64 (key)) (.int .i64 (0)) (.int .i64 (0)) (.int .i64 (0)) (.int .i64 (0)) (.int .i64 (0)) rfl
  obtain ⟨y0, y1, y2, y3, y4⟩ := hq.five
  obtain ⟨z0, z1, z2, z3, z4⟩ := hc.five
  exact bodyPost_ret (v := .tuple #[(TK.more (f) (r) (o) (s) (key)).q, (TK.more (f) (r) (o) (s) (key)).c, .int .i64 1]) (by simp [results, Try.results119, go_sem, TK.more, TK.q, TK.c, y0, y1, y2, y3, y4, z0, z1, z2, z3, z4]) rfl (RefPost.of hbel)

set_option maxRecDepth 100000 in
set_option maxHeartbeats 8000000 in
theorem ref_take_mo_n (f r o s key : Int) (w : World) (hp : partE f r o s 0 = 0) (hu : Usual key) (hdg : decide (49 ≤ key ∧ key ≤ 57) = false) (hop : opB key = false) (hmo : moB key = true) (h48 : (key == 48) = false) (ho : (o != 0) = true) (ho' : (o == 0) = false) :
    Calls Try.prog 119 #[.agg #[.int .i64 f, .int .i64 r, .int .i64 o, .int .i64 s, .int .i64 0], .int .i64 key] w (RefPost (TK.done f r o s key 0) w) := by
  have hmf : ∀ (fn : Fn) (first cap : Array Value) (w : World), (Instr.makeFunc fn first cap).run Try.prog w = .ok (.func fn first cap) w := fun _ _ _ _ => rfl
  have hX := Box4.start w f r o s 0
  obtain ⟨b1, b2, b3, b4, b5⟩ := part_ok hp
  clear hp b5
  have u1 : 32 ≤ key := by unfold Usual at hu; omega
  have u2 : (key == 127) = false := by unfold Usual at hu; simp; omega
  clear hu
  have HI0 := Lib.hid (show iaB 0 = false by decide)
  have HDG := Lib.hid (show decide (49 ≤ key ∧ key ≤ 57) = false from hdg)
  have HOP := Lib.hid (show opB key = false from hop)
  have HMO := Lib.hid (show moB key = true from hmo)
  clear hdg hop hmo
  have HE := Lib.hid (Box4.start w f r o s 0)
  go_enter Try.func119, Try.ntmps119
  go_upto_region 5 with fail
  generalize ((((w.alloc (.cells #[.int .i64 f, .int .i64 r, .int .i64 o, .int .i64 s, .int .i64 0] 83)).alloc (.cells #[.int .i64 0, .int .i64 0, .int .i64 0, .int .i64 0, .int .i64 0] 83)).alloc (.cells #[.int .i64 0, .int .i64 0, .int .i64 0, .int .i64 0, .int .i64 0] 80)).alloc (.cells #[.int .i64 f, .int .i64 r, .int .i64 o, .int .i64 s, .int .i64 0] 83)) = w1 at *
  obtain ⟨c0, c1, c2, c3, c4⟩ := hX.b.p.five
  obtain ⟨d0, d1, d2, d3, d4⟩ := hX.v.five
  obtain ⟨f0, f1, f2, f3, f4⟩ := hX.v.fiveF
  go_wp2_with (first | (go_at_call 121; refine (ref_in _ _ (by decide) _).mono ?_; rintro e w9 ⟨rfl, hb⟩; (first | rw [in_ia, HI0.out] | rw [in_dg, HDG.out] | rw [in_op, HOP.out] | rw [in_mo, HMO.out]); have hX := hX.below hb; clear c0 c1 c2 c3 c4 d0 d1 d2 d3 d4 f0 f1 f2 f3 f4; obtain ⟨c0, c1, c2, c3, c4⟩ := hX.b.p.five; obtain ⟨d0, d1, d2, d3, d4⟩ := hX.v.five; obtain ⟨f0, f1, f2, f3, f4⟩ := hX.v.fiveF) | (go_at_call 167; refine (take_done _ _ _ _ _ _ _ _ _ hX.b.p b1 b2 b3 b4).mono ?_; rintro e w9 ⟨rfl, hb⟩; have hX := hX.below hb; obtain ⟨k0, k1, k2, k3, k4⟩ := hX.b.q.five; obtain ⟨l0, l1, l2, l3, l4⟩ := hX.b.q.fiveF; obtain ⟨m0, m1, m2, m3, m4⟩ := hX.b.c.five; obtain ⟨n0, n1, n2, n3, n4⟩ := hX.b.c.fiveF))
  obtain ⟨hq, hc, hbel⟩ := hX.b.done (.int .i64 (0)) (.int .i64 (0)) (.int .i64 (0)) (.int .i64 (0)) (.int .i64 (0)) (.int .i64 (totV f s)) (.int .i64 (r)) (.int .i64 (o)) (.int .i64 (key)) (.int .i64 (0)) rfl
  obtain ⟨y0, y1, y2, y3, y4⟩ := hq.five
  obtain ⟨z0, z1, z2, z3, z4⟩ := hc.five
  exact bodyPost_ret (v := .tuple #[(TK.done f r o s key 0).q, (TK.done f r o s key 0).c, .int .i64 2]) (by simp [results, Try.results119, go_sem, TK.done, TK.q, TK.c, y0, y1, y2, y3, y4, z0, z1, z2, z3, z4]) rfl (RefPost.of hbel)

set_option maxRecDepth 100000 in
set_option maxHeartbeats 8000000 in
theorem ref_take_mz_n (f r o s key : Int) (w : World) (hp : partE f r o s 0 = 0) (hu : Usual key) (hdg : decide (49 ≤ key ∧ key ≤ 57) = false) (hop : opB key = false) (hmo : moB key = true) (h48 : (key == 48) = true) (hcn : s ≤ 0) (ho : (o != 0) = true) (ho' : (o == 0) = false) :
    Calls Try.prog 119 #[.agg #[.int .i64 f, .int .i64 r, .int .i64 o, .int .i64 s, .int .i64 0], .int .i64 key] w (RefPost (TK.done f r o s key 0) w) := by
  have hmf : ∀ (fn : Fn) (first cap : Array Value) (w : World), (Instr.makeFunc fn first cap).run Try.prog w = .ok (.func fn first cap) w := fun _ _ _ _ => rfl
  have hX := Box4.start w f r o s 0
  obtain ⟨b1, b2, b3, b4, b5⟩ := part_ok hp
  clear hp b5
  have u1 : 32 ≤ key := by unfold Usual at hu; omega
  have u2 : (key == 127) = false := by unfold Usual at hu; simp; omega
  clear hu
  have HI0 := Lib.hid (show iaB 0 = false by decide)
  have HDG := Lib.hid (show decide (49 ≤ key ∧ key ≤ 57) = false from hdg)
  have HOP := Lib.hid (show opB key = false from hop)
  have HMO := Lib.hid (show moB key = true from hmo)
  clear hdg hop hmo
  have HE := Lib.hid (Box4.start w f r o s 0)
  go_enter Try.func119, Try.ntmps119
  go_upto_region 5 with fail
  generalize ((((w.alloc (.cells #[.int .i64 f, .int .i64 r, .int .i64 o, .int .i64 s, .int .i64 0] 83)).alloc (.cells #[.int .i64 0, .int .i64 0, .int .i64 0, .int .i64 0, .int .i64 0] 83)).alloc (.cells #[.int .i64 0, .int .i64 0, .int .i64 0, .int .i64 0, .int .i64 0] 80)).alloc (.cells #[.int .i64 f, .int .i64 r, .int .i64 o, .int .i64 s, .int .i64 0] 83)) = w1 at *
  obtain ⟨c0, c1, c2, c3, c4⟩ := hX.b.p.five
  obtain ⟨d0, d1, d2, d3, d4⟩ := hX.v.five
  obtain ⟨f0, f1, f2, f3, f4⟩ := hX.v.fiveF
  go_wp2_with (first | (go_at_call 121; refine (ref_in _ _ (by decide) _).mono ?_; rintro e w9 ⟨rfl, hb⟩; (first | rw [in_ia, HI0.out] | rw [in_dg, HDG.out] | rw [in_op, HOP.out] | rw [in_mo, HMO.out]); have hX := hX.below hb; clear c0 c1 c2 c3 c4 d0 d1 d2 d3 d4 f0 f1 f2 f3 f4; obtain ⟨c0, c1, c2, c3, c4⟩ := hX.b.p.five; obtain ⟨d0, d1, d2, d3, d4⟩ := hX.v.five; obtain ⟨f0, f1, f2, f3, f4⟩ := hX.v.fiveF) | (go_at_call 167; refine (take_done _ _ _ _ _ _ _ _ _ hX.b.p b1 b2 b3 b4).mono ?_; rintro e w9 ⟨rfl, hb⟩; have hX := hX.below hb; obtain ⟨k0, k1, k2, k3, k4⟩ := hX.b.q.five; obtain ⟨l0, l1, l2, l3, l4⟩ := hX.b.q.fiveF; obtain ⟨m0, m1, m2, m3, m4⟩ := hX.b.c.five; obtain ⟨n0, n1, n2, n3, n4⟩ := hX.b.c.fiveF))
  obtain ⟨hq, hc, hbel⟩ := hX.b.done (.int .i64 (0)) (.int .i64 (0)) (.int .i64 (0)) (.int .i64 (0)) (.int .i64 (0)) (.int .i64 (totV f s)) (.int .i64 (r)) (.int .i64 (o)) (.int .i64 (key)) (.int .i64 (0)) rfl
  obtain ⟨y0, y1, y2, y3, y4⟩ := hq.five
  obtain ⟨z0, z1, z2, z3, z4⟩ := hc.five
  exact bodyPost_ret (v := .tuple #[(TK.done f r o s key 0).q, (TK.done f r o s key 0).c, .int .i64 2]) (by simp [results, Try.results119, go_sem, TK.done, TK.q, TK.c, y0, y1, y2, y3, y4, z0, z1, z2, z3, z4]) rfl (RefPost.of hbel)

set_option maxRecDepth 100000 in
set_option maxHeartbeats 8000000 in
theorem ref_take_fi_n (f r o s key : Int) (w : World) (hp : partE f r o s 0 = 0) (hu : Usual key) (hdg : decide (49 ≤ key ∧ key ≤ 57) = false) (hop : opB key = false) (hmo : moB key = false) (hfi : fiB key = true) (h48 : (key == 48) = false) (ho : (o != 0) = true) (ho' : (o == 0) = false) :
    Calls Try.prog 119 #[.agg #[.int .i64 f, .int .i64 r, .int .i64 o, .int .i64 s, .int .i64 0], .int .i64 key] w (RefPost (TK.more f r o s key) w) := by
  have hmf : ∀ (fn : Fn) (first cap : Array Value) (w : World), (Instr.makeFunc fn first cap).run Try.prog w = .ok (.func fn first cap) w := fun _ _ _ _ => rfl
  have hX := Box4.start w f r o s 0
  obtain ⟨b1, b2, b3, b4, b5⟩ := part_ok hp
  clear hp b5
  have u1 : 32 ≤ key := by unfold Usual at hu; omega
  have u2 : (key == 127) = false := by unfold Usual at hu; simp; omega
  clear hu
  have HI0 := Lib.hid (show iaB 0 = false by decide)
  have HDG := Lib.hid (show decide (49 ≤ key ∧ key ≤ 57) = false from hdg)
  have HOP := Lib.hid (show opB key = false from hop)
  have HMO := Lib.hid (show moB key = false from hmo)
  have HFI := Lib.hid (show fiB key = true from hfi)
  clear hdg hop hmo hfi
  have HE := Lib.hid (Box4.start w f r o s 0)
  go_enter Try.func119, Try.ntmps119
  go_upto_region 5 with fail
  generalize ((((w.alloc (.cells #[.int .i64 f, .int .i64 r, .int .i64 o, .int .i64 s, .int .i64 0] 83)).alloc (.cells #[.int .i64 0, .int .i64 0, .int .i64 0, .int .i64 0, .int .i64 0] 83)).alloc (.cells #[.int .i64 0, .int .i64 0, .int .i64 0, .int .i64 0, .int .i64 0] 80)).alloc (.cells #[.int .i64 f, .int .i64 r, .int .i64 o, .int .i64 s, .int .i64 0] 83)) = w1 at *
  obtain ⟨c0, c1, c2, c3, c4⟩ := hX.b.p.five
  obtain ⟨d0, d1, d2, d3, d4⟩ := hX.v.five
  obtain ⟨f0, f1, f2, f3, f4⟩ := hX.v.fiveF
  go_wp2_with (first | (go_at_call 121; refine (ref_in _ _ (by decide) _).mono ?_; rintro e w9 ⟨rfl, hb⟩; (first | rw [in_ia, HI0.out] | rw [in_dg, HDG.out] | rw [in_op, HOP.out] | rw [in_mo, HMO.out] | rw [in_fi, HFI.out]); have hX := hX.below hb; clear c0 c1 c2 c3 c4 d0 d1 d2 d3 d4 f0 f1 f2 f3 f4; obtain ⟨c0, c1, c2, c3, c4⟩ := hX.b.p.five; obtain ⟨d0, d1, d2, d3, d4⟩ := hX.v.five; obtain ⟨f0, f1, f2, f3, f4⟩ := hX.v.fiveF) | (go_at_call 169; refine (take_more _ _ _ _ _ _).mono ?_; rintro e w9 ⟨rfl, hb⟩; have hX := (hX.setv (u0 := f) (u1 := r) (u2 := o) (u3 := s) (u4 := key) 4 (.int .i64 key) rfl).below hb; obtain ⟨k0, k1, k2, k3, k4⟩ := hX.b.q.five; obtain ⟨l0, l1, l2, l3, l4⟩ := hX.b.q.fiveF; obtain ⟨m0, m1, m2, m3, m4⟩ := hX.b.c.five; obtain ⟨n0, n1, n2, n3, n4⟩ := hX.b.c.fiveF))
  obtain ⟨hq, hc, hbel⟩ := hX.b.done (.int .i64 (f)) (.int .i64 (r)) (.int .i64 (o)) (.int .i64 (s)) (.int .i64 (key)) (.int .i64 (0)) (.int .i64 (0)) (.int .i64 (0)) (.int .i64 (0)) (.int .i64 (0)) rfl
  obtain ⟨y0, y1, y2, y3, y4⟩ := hq.five
  obtain ⟨z0, z1, z2, z3, z4⟩ := hc.five
  exact bodyPost_ret (v := .tuple #[(TK.more (f) (r) (o) (s) (key)).q, (TK.more (f) (r) (o) (s) (key)).c, .int .i64 1]) (by simp [results, Try.results119, go_sem, TK.more, TK.q, TK.c, y0, y1, y2, y3, y4, z0, z1, z2, z3, z4]) rfl (RefPost.of hbel)

set_option maxRecDepth 100000 in
set_option maxHeartbeats 8000000 in
theorem ref_take_ia_n (f r o s key : Int) (w : World) (hp : partE f r o s 0 = 0) (hu : Usual key) (hdg : decide (49 ≤ key ∧ key ≤ 57) = false) (hop : opB key = false) (hmo : moB key = false) (hfi : fiB key = false) (hia : iaB key = true) (h48 : (key == 48) = false) (ho : (o != 0) = true) (ho' : (o == 0) = false) :
    Calls Try.prog 119 #[.agg #[.int .i64 f, .int .i64 r, .int .i64 o, .int .i64 s, .int .i64 0], .int .i64 key] w (RefPost (TK.more f r o s key) w) := by
  have hmf : ∀ (fn : Fn) (first cap : Array Value) (w : World), (Instr.makeFunc fn first cap).run Try.prog w = .ok (.func fn first cap) w := fun _ _ _ _ => rfl
  have hX := Box4.start w f r o s 0
  obtain ⟨b1, b2, b3, b4, b5⟩ := part_ok hp
  clear hp b5
  have u1 : 32 ≤ key := by unfold Usual at hu; omega
  have u2 : (key == 127) = false := by unfold Usual at hu; simp; omega
  clear hu
  have HI0 := Lib.hid (show iaB 0 = false by decide)
  have HDG := Lib.hid (show decide (49 ≤ key ∧ key ≤ 57) = false from hdg)
  have HOP := Lib.hid (show opB key = false from hop)
  have HMO := Lib.hid (show moB key = false from hmo)
  have HFI := Lib.hid (show fiB key = false from hfi)
  have HIA := Lib.hid (show iaB key = true from hia)
  clear hdg hop hmo hfi hia
  have HE := Lib.hid (Box4.start w f r o s 0)
  go_enter Try.func119, Try.ntmps119
  go_upto_region 5 with fail
  generalize ((((w.alloc (.cells #[.int .i64 f, .int .i64 r, .int .i64 o, .int .i64 s, .int .i64 0] 83)).alloc (.cells #[.int .i64 0, .int .i64 0, .int .i64 0, .int .i64 0, .int .i64 0] 83)).alloc (.cells #[.int .i64 0, .int .i64 0, .int .i64 0, .int .i64 0, .int .i64 0] 80)).alloc (.cells #[.int .i64 f, .int .i64 r, .int .i64 o, .int .i64 s, .int .i64 0] 83)) = w1 at *
  obtain ⟨c0, c1, c2, c3, c4⟩ := hX.b.p.five
  obtain ⟨d0, d1, d2, d3, d4⟩ := hX.v.five
  obtain ⟨f0, f1, f2, f3, f4⟩ := hX.v.fiveF
  go_wp2_with (first | (go_at_call 121; refine (ref_in _ _ (by decide) _).mono ?_; rintro e w9 ⟨rfl, hb⟩; (first | rw [in_ia, HI0.out] | rw [in_dg, HDG.out] | rw [in_op, HOP.out] | rw [in_mo, HMO.out] | rw [in_fi, HFI.out] | rw [in_ia, HIA.out]); have hX := hX.below hb; clear c0 c1 c2 c3 c4 d0 d1 d2 d3 d4 f0 f1 f2 f3 f4; obtain ⟨c0, c1, c2, c3, c4⟩ := hX.b.p.five; obtain ⟨d0, d1, d2, d3, d4⟩ := hX.v.five; obtain ⟨f0, f1, f2, f3, f4⟩ := hX.v.fiveF) | (go_at_call 169; refine (take_more _ _ _ _ _ _).mono ?_; rintro e w9 ⟨rfl, hb⟩; have hX := (hX.setv (u0 := f) (u1 := r) (u2 := o) (u3 := s) (u4 := key) 4 (.int .i64 key) rfl).below hb; obtain ⟨k0, k1, k2, k3, k4⟩ := hX.b.q.five; obtain ⟨l0, l1, l2, l3, l4⟩ := hX.b.q.fiveF; obtain ⟨m0, m1, m2, m3, m4⟩ := hX.b.c.five; obtain ⟨n0, n1, n2, n3, n4⟩ := hX.b.c.fiveF))
  obtain ⟨hq, hc, hbel⟩ := hX.b.done (.int .i64 (f)) (.int .i64 (r)) (.int .i64 (o)) (.int .i64 (s)) (.int .i64 (key)) (.int .i64 (0)) (.int .i64 (0)) (.int .i64 (0)) (.int .i64 (0)) (.int .i64 (0)) rfl
  obtain ⟨y0, y1, y2, y3, y4⟩ := hq.five
  obtain ⟨z0, z1, z2, z3, z4⟩ := hc.five
  exact bodyPost_ret (v := .tuple #[(TK.more (f) (r) (o) (s) (key)).q, (TK.more (f) (r) (o) (s) (key)).c, .int .i64 1]) (by simp [results, Try.results119, go_sem, TK.more, TK.q, TK.c, y0, y1, y2, y3, y4, z0, z1, z2, z3, z4]) rfl (RefPost.of hbel)

set_option maxRecDepth 100000 in
set_option maxHeartbeats 8000000 in
theorem ref_take_no_n (f r o s key : Int) (w : World) (hp : partE f r o s 0 = 0) (hu : Usual key) (hdg : decide (49 ≤ key ∧ key ≤ 57) = false) (hop : opB key = false) (hmo : moB key = false) (hfi : fiB key = false) (hia : iaB key = false) (h48 : (key == 48) = false) (ho : (o != 0) = true) (ho' : (o == 0) = false) :
    Calls Try.prog 119 #[.agg #[.int .i64 f, .int .i64 r, .int .i64 o, .int .i64 s, .int .i64 0], .int .i64 key] w (RefPost (TK.wrong) w) := by
  have hmf : ∀ (fn : Fn) (first cap : Array Value) (w : World), (Instr.makeFunc fn first cap).run Try.prog w = .ok (.func fn first cap) w := fun _ _ _ _ => rfl
  have hX := Box4.start w f r o s 0
  obtain ⟨b1, b2, b3, b4, b5⟩ := part_ok hp
  clear hp b5
  have u1 : 32 ≤ key := by unfold Usual at hu; omega
  have u2 : (key == 127) = false := by unfold Usual at hu; simp; omega
  clear hu
  have HI0 := Lib.hid (show iaB 0 = false by decide)
  have HDG := Lib.hid (show decide (49 ≤ key ∧ key ≤ 57) = false from hdg)
  have HOP := Lib.hid (show opB key = false from hop)
  have HMO := Lib.hid (show moB key = false from hmo)
  have HFI := Lib.hid (show fiB key = false from hfi)
  have HIA := Lib.hid (show iaB key = false from hia)
  clear hdg hop hmo hfi hia
  have HE := Lib.hid (Box4.start w f r o s 0)
  go_enter Try.func119, Try.ntmps119
  go_upto_region 5 with fail
  generalize ((((w.alloc (.cells #[.int .i64 f, .int .i64 r, .int .i64 o, .int .i64 s, .int .i64 0] 83)).alloc (.cells #[.int .i64 0, .int .i64 0, .int .i64 0, .int .i64 0, .int .i64 0] 83)).alloc (.cells #[.int .i64 0, .int .i64 0, .int .i64 0, .int .i64 0, .int .i64 0] 80)).alloc (.cells #[.int .i64 f, .int .i64 r, .int .i64 o, .int .i64 s, .int .i64 0] 83)) = w1 at *
  obtain ⟨c0, c1, c2, c3, c4⟩ := hX.b.p.five
  obtain ⟨d0, d1, d2, d3, d4⟩ := hX.v.five
  obtain ⟨f0, f1, f2, f3, f4⟩ := hX.v.fiveF
  go_wp2_with (first | (go_at_call 121; refine (ref_in _ _ (by decide) _).mono ?_; rintro e w9 ⟨rfl, hb⟩; (first | rw [in_ia, HI0.out] | rw [in_dg, HDG.out] | rw [in_op, HOP.out] | rw [in_mo, HMO.out] | rw [in_fi, HFI.out] | rw [in_ia, HIA.out]); have hX := hX.below hb; clear c0 c1 c2 c3 c4 d0 d1 d2 d3 d4 f0 f1 f2 f3 f4; obtain ⟨c0, c1, c2, c3, c4⟩ := hX.b.p.five; obtain ⟨d0, d1, d2, d3, d4⟩ := hX.v.five; obtain ⟨f0, f1, f2, f3, f4⟩ := hX.v.fiveF) | (go_at_call 166; refine (take_wrong _).mono ?_; rintro e w9 ⟨rfl, hb⟩; have hX := hX.below hb; obtain ⟨k0, k1, k2, k3, k4⟩ := hX.b.q.five; obtain ⟨l0, l1, l2, l3, l4⟩ := hX.b.q.fiveF; obtain ⟨m0, m1, m2, m3, m4⟩ := hX.b.c.five; obtain ⟨n0, n1, n2, n3, n4⟩ := hX.b.c.fiveF))
  obtain ⟨hq, hc, hbel⟩ := hX.b.done (.int .i64 (0)) (.int .i64 (0)) (.int .i64 (0)) (.int .i64 (0)) (.int .i64 (0)) (.int .i64 (0)) (.int .i64 (0)) (.int .i64 (0)) (.int .i64 (0)) (.int .i64 (0)) rfl
  obtain ⟨y0, y1, y2, y3, y4⟩ := hq.five
  obtain ⟨z0, z1, z2, z3, z4⟩ := hc.five
  exact bodyPost_ret (v := .tuple #[(TK.wrong).q, (TK.wrong).c, .int .i64 3]) (by simp [results, Try.results119, go_sem, TK.wrong, TK.q, TK.c, y0, y1, y2, y3, y4, z0, z1, z2, z3, z4]) rfl (RefPost.of hbel)

end Go.Proofs.Ytmipnikhgihcpaa
