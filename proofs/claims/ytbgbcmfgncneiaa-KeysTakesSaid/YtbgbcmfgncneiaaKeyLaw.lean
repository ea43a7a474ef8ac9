/- The walk of KeysTakes. -/
import Derived.Test.YtbgbcmfgncneiaaKeyT
namespace Go.Proofs.Ytbgbcmfgncneiaa
open Go.RowKit
set_option linter.unusedVariables false
set_option linter.unusedSimpArgs false

set_option maxRecDepth 100000 in
set_option maxHeartbeats 2000000 in
theorem keysTakes_bad (f r o s wt key : Int) (w : World) (hp : partE f r o s wt ≠ 0) :
    Calls Try.prog 8 #[.agg #[.int .i64 f, .int .i64 r, .int .i64 o, .int .i64 s, .int .i64 wt], .int .i64 key] w fun e w' => e = .returned (.bool true) ∧ Below w.heap.size w w' := by
  have hp1 : partE f r o s wt = 1 := by
    unfold partE at hp ⊢; split <;> simp_all
  have HP := Lib.hid hp1
  have HP0 := Lib.hid hp
  clear hp hp1
  have hA := Blk.new w #[.int .i64 f, .int .i64 r, .int .i64 o, .int .i64 s, .int .i64 wt] 69
  have hacc := below1 w (.cells #[.int .i64 f, .int .i64 r, .int .i64 o, .int .i64 s, .int .i64 wt] 69)
  go_enter Try.func8, Try.ntmps8
  go_upto_region 1 with fail
  generalize w.alloc (.cells #[.int .i64 f, .int .i64 r, .int .i64 o, .int .i64 s, .int .i64 wt] 69) = w1 at *
  obtain ⟨c0, c1, c2, c3, c4⟩ := hA.five
  go_wp2_with fail
  refine (ref_partErr _ _ _ _ _ _).mono ?_
  rintro e w2 ⟨rfl, hb⟩
  rw [HP.out]
  have hA := hA.below hb hA.lt
  have hacc := below_then hacc hacc.size hb
  clear c0 c1 c2 c3 c4
  obtain ⟨c0, c1, c2, c3, c4⟩ := hA.five
  go_wp2_with fail
  refine (keys_take_bad _ _ _ _ _ _ _ HP0.out).mono ?_
  rintro e w3 ⟨rfl, hb⟩
  rw [HP.out]
  have hA := hA.below hb hA.lt
  have hacc := below_then hacc hacc.size hb
  clear c0 c1 c2 c3 c4
  obtain ⟨c0, c1, c2, c3, c4⟩ := hA.five
  simp only [TK.q, TK.c]
  have hA := (hA.alloc (.cells #[.int .i64 0, .int .i64 0, .int .i64 0, .int .i64 0, .int .i64 0] 69)).alloc (.cells #[.int .i64 0, .int .i64 0, .int .i64 0, .int .i64 0, .int .i64 0] 72)
  have hQ := (Blk.new w3 #[.int .i64 0, .int .i64 0, .int .i64 0, .int .i64 0, .int .i64 0] 69).alloc (.cells #[.int .i64 0, .int .i64 0, .int .i64 0, .int .i64 0, .int .i64 0] 72)
  have hC := Blk.new (w3.alloc (.cells #[.int .i64 0, .int .i64 0, .int .i64 0, .int .i64 0, .int .i64 0] 69)) #[.int .i64 0, .int .i64 0, .int .i64 0, .int .i64 0, .int .i64 0] 72
  rw [World.size_alloc] at hC
  have hacc := (hacc.alloc hacc.size (.cells #[.int .i64 0, .int .i64 0, .int .i64 0, .int .i64 0, .int .i64 0] 69)).alloc (size_alloc_le hacc.size _) (.cells #[.int .i64 0, .int .i64 0, .int .i64 0, .int .i64 0, .int .i64 0] 72)
  go_upto_region 3 with fail
  generalize (w3.alloc (.cells #[.int .i64 0, .int .i64 0, .int .i64 0, .int .i64 0, .int .i64 0] 69)).alloc (.cells #[.int .i64 0, .int .i64 0, .int .i64 0, .int .i64 0, .int .i64 0] 72) = w4 at *
  clear c0 c1 c2 c3 c4
  obtain ⟨c0, c1, c2, c3, c4⟩ := hA.five
  go_wp2_with fail
  refine (keys_check _ _ _ _ _ _).mono ?_
  rintro e w5 ⟨rfl, hb⟩
  rw [HP.out]
  have hQ := hQ.below hb hQ.lt
  have hC := hC.below hb hC.lt
  have hacc := below_then hacc hacc.size hb
  obtain ⟨k0, k1, k2, k3, k4⟩ := hQ.five
  obtain ⟨l0, l1, l2, l3, l4⟩ := hC.five
  go_wp2
  go_ret
  exact ⟨rfl, hacc⟩

set_option maxRecDepth 100000 in
set_option maxHeartbeats 4000000 in
theorem keysTakes_ok (f r o s wt key : Int) (w : World) (hp : partE f r o s wt = 0) :
    Calls Try.prog 8 #[.agg #[.int .i64 f, .int .i64 r, .int .i64 o, .int .i64 s, .int .i64 wt], .int .i64 key] w fun e w' => e = .returned (.bool true) ∧ Below w.heap.size w w' := by
  have HP := Lib.hid hp
  clear hp
  have hA := Blk.new w #[.int .i64 f, .int .i64 r, .int .i64 o, .int .i64 s, .int .i64 wt] 69
  have hacc := below1 w (.cells #[.int .i64 f, .int .i64 r, .int .i64 o, .int .i64 s, .int .i64 wt] 69)
  go_enter Try.func8, Try.ntmps8
  go_upto_region 1 with fail
  generalize w.alloc (.cells #[.int .i64 f, .int .i64 r, .int .i64 o, .int .i64 s, .int .i64 wt] 69) = w1 at *
  obtain ⟨c0, c1, c2, c3, c4⟩ := hA.five
  go_wp2_with fail
  refine (ref_partErr _ _ _ _ _ _).mono ?_
  rintro e w2 ⟨rfl, hb⟩
  rw [HP.out]
  have hA := hA.below hb hA.lt
  have hacc := below_then hacc hacc.size hb
  clear c0 c1 c2 c3 c4
  obtain ⟨c0, c1, c2, c3, c4⟩ := hA.five
  go_wp2_with fail
  refine (keys_take _ _ _ _ _ _ _ HP.out).mono ?_
  rintro e w3 ⟨rfl, hb⟩
  have hA := hA.below hb hA.lt
  have hacc := below_then hacc hacc.size hb
  clear c0 c1 c2 c3 c4
  have hr := ref_take f r o s wt key
  unfold RefT at hr
  generalize takV f r o s wt key = t at *
  have HR := Lib.hid hr
  clear hr
  obtain ⟨q0, q1, q2, q3, q4, d0, d1, d2, d3, d4, how⟩ := t
  obtain ⟨c0, c1, c2, c3, c4⟩ := hA.five
  simp only [TK.q, TK.c]
  have hA := (hA.alloc (.cells #[.int .i64 q0, .int .i64 q1, .int .i64 q2, .int .i64 q3, .int .i64 q4] 69)).alloc (.cells #[.int .i64 d0, .int .i64 d1, .int .i64 d2, .int .i64 d3, .int .i64 d4] 72)
  have hQ := (Blk.new w3 #[.int .i64 q0, .int .i64 q1, .int .i64 q2, .int .i64 q3, .int .i64 q4] 69).alloc (.cells #[.int .i64 d0, .int .i64 d1, .int .i64 d2, .int .i64 d3, .int .i64 d4] 72)
  have hC := Blk.new (w3.alloc (.cells #[.int .i64 q0, .int .i64 q1, .int .i64 q2, .int .i64 q3, .int .i64 q4] 69)) #[.int .i64 d0, .int .i64 d1, .int .i64 d2, .int .i64 d3, .int .i64 d4] 72
  rw [World.size_alloc] at hC
  have hacc := (hacc.alloc hacc.size (.cells #[.int .i64 q0, .int .i64 q1, .int .i64 q2, .int .i64 q3, .int .i64 q4] 69)).alloc (size_alloc_le hacc.size _) (.cells #[.int .i64 d0, .int .i64 d1, .int .i64 d2, .int .i64 d3, .int .i64 d4] 72)
  go_upto_region 3 with fail
  generalize (w3.alloc (.cells #[.int .i64 q0, .int .i64 q1, .int .i64 q2, .int .i64 q3, .int .i64 q4] 69)).alloc (.cells #[.int .i64 d0, .int .i64 d1, .int .i64 d2, .int .i64 d3, .int .i64 d4] 72) = w4 at *
  clear c0 c1 c2 c3 c4
  obtain ⟨c0, c1, c2, c3, c4⟩ := hA.five
  go_wp2_with fail
  refine (keys_check _ _ _ _ _ _).mono ?_
  rintro e w5 ⟨rfl, hb⟩
  rw [HP.out]
  have hA := hA.below hb hA.lt
  have hQ := hQ.below hb hQ.lt
  have hC := hC.below hb hC.lt
  have hacc := below_then hacc hacc.size hb
  clear c0 c1 c2 c3 c4 hb
  obtain ⟨c0, c1, c2, c3, c4⟩ := hA.five
  go_wp2_with fail
  refine (HR.out _ HP.out).mono ?_
  rintro e w6 ⟨rfl, hb⟩
  have hQ := hQ.below hb hQ.lt
  have hC := hC.below hb hC.lt
  have hacc := below_then hacc hacc.size hb
  clear c0 c1 c2 c3 c4 hb hA
  simp only [TK.q, TK.c]
  have hQ := (hQ.alloc (.cells #[.int .i64 q0, .int .i64 q1, .int .i64 q2, .int .i64 q3, .int .i64 q4] 69)).alloc (.cells #[.int .i64 d0, .int .i64 d1, .int .i64 d2, .int .i64 d3, .int .i64 d4] 72)
  have hC := (hC.alloc (.cells #[.int .i64 q0, .int .i64 q1, .int .i64 q2, .int .i64 q3, .int .i64 q4] 69)).alloc (.cells #[.int .i64 d0, .int .i64 d1, .int .i64 d2, .int .i64 d3, .int .i64 d4] 72)
  have hQ2 := (Blk.new w6 #[.int .i64 q0, .int .i64 q1, .int .i64 q2, .int .i64 q3, .int .i64 q4] 69).alloc (.cells #[.int .i64 d0, .int .i64 d1, .int .i64 d2, .int .i64 d3, .int .i64 d4] 72)
  have hC2 := Blk.new (w6.alloc (.cells #[.int .i64 q0, .int .i64 q1, .int .i64 q2, .int .i64 q3, .int .i64 q4] 69)) #[.int .i64 d0, .int .i64 d1, .int .i64 d2, .int .i64 d3, .int .i64 d4] 72
  rw [World.size_alloc] at hC2
  have hacc := (hacc.alloc hacc.size (.cells #[.int .i64 q0, .int .i64 q1, .int .i64 q2, .int .i64 q3, .int .i64 q4] 69)).alloc (size_alloc_le hacc.size _) (.cells #[.int .i64 d0, .int .i64 d1, .int .i64 d2, .int .i64 d3, .int .i64 d4] 72)
  go_upto_region 8 with fail
  generalize (w6.alloc (.cells #[.int .i64 q0, .int .i64 q1, .int .i64 q2, .int .i64 q3, .int .i64 q4] 69)).alloc (.cells #[.int .i64 d0, .int .i64 d1, .int .i64 d2, .int .i64 d3, .int .i64 d4] 72) = w7 at *
  obtain ⟨k0, k1, k2, k3, k4⟩ := hQ.five
  obtain ⟨l0, l1, l2, l3, l4⟩ := hC.five
  obtain ⟨m0, m1, m2, m3, m4⟩ := hQ2.five
  obtain ⟨n0, n1, n2, n3, n4⟩ := hC2.five
  go_wp2
  go_ret
  exact ⟨rfl, hacc⟩

theorem keysTakes_walk (f r o s wt key : Int) (w : World) :
    Calls Try.prog 8 #[.agg #[.int .i64 f, .int .i64 r, .int .i64 o, .int .i64 s, .int .i64 wt], .int .i64 key] w fun e w' => e = .returned (.bool true) ∧ Below w.heap.size w w' := by
  by_cases hp : partE f r o s wt = 0
  · exact keysTakes_ok f r o s wt key w hp
  · exact keysTakes_bad f r o s wt key w hp

end Go.Proofs.Ytbgbcmfgncneiaa
