/- Contract of keys.Check. -/
import Derived.Test.YtmipnikhgihcpaaKey2
import Derived.Deep.Light
namespace Go.Proofs.Ytmipnikhgihcpaa
open Go.RowKit
set_option linter.unusedVariables false
set_option linter.unusedSimpArgs false

set_option maxRecDepth 100000 in
set_option maxHeartbeats 2000000 in
theorem keys_check (f r o s wt : Int) (w : World) :
    Calls Try.prog 161 #[.agg #[.int .i64 f, .int .i64 r, .int .i64 o, .int .i64 s, .int .i64 wt]] w fun e w' => e = .returned (.int .i64 (partE f r o s wt)) ∧ Below w.heap.size w w' := by
  have hA := Blk.new w #[.int .i64 f, .int .i64 r, .int .i64 o, .int .i64 s, .int .i64 wt] 83
  have hacc := below1 w (.cells #[.int .i64 f, .int .i64 r, .int .i64 o, .int .i64 s, .int .i64 wt] 83)
  obtain ⟨b1, hb1⟩ : ∃ b1, cntB f o s = b1 := ⟨_, rfl⟩
  obtain ⟨b2, hb2⟩ : ∃ b2, namB r o = b2 := ⟨_, rfl⟩
  have HE := Lib.hid (show partE f r o s wt = if (b1 && b2 && waiB r o wt) = true then 0 else 1 by unfold partE; rw [hb1, hb2])
  have HB1 := Lib.hid hb1; have HB2 := Lib.hid hb2
  clear hb1 hb2
  go_enter Try.func161, Try.ntmps161
  go_upto_region 1 with fail
  generalize w.alloc (.cells #[.int .i64 f, .int .i64 r, .int .i64 o, .int .i64 s, .int .i64 wt] 83) = w1 at *
  obtain ⟨c0, c1, c2, c3, c4⟩ := hA.five
  go_cut [30] (fun v wx => v = .bool (!b1) ∧ w1 = wx)
  case first =>
    obtain ⟨zo, ho⟩ := zOf o 0
    rcases zo with _ | _
    all_goals
      go_wp2
      all_goals
        go_meet
        refine ⟨congrArg Value.bool ?_, rfl⟩
        rw [← HB1.out]
        simp at ho
        rw [Bool.eq_iff_iff]
        simp [cntB]
        omega
  obtain ⟨rfl, rfl⟩ := hcut
  rcases b1 with _ | _
  · go_wp2
    go_ret
    exact ⟨ret1_int (by rw [HE.out]; rfl), hacc⟩
  go_upto_region 3 with fail
  go_cut [50] (fun v wx => v = .bool (!b2) ∧ w1 = wx)
  case first =>
    obtain ⟨zo, ho⟩ := zOf o 0
    obtain ⟨zr, hr⟩ := zOf r 0
    have ho2 : (o != 0) = !zo := by rw [bne, ho]
    have hr2 : (r != 0) = !zr := by rw [bne, hr]
    rcases zo with _ | _ <;> rcases zr with _ | _
    all_goals
      go_wp2_with (first | (go_at_call 204; refine (keys_letter _ _).mono ?_; rintro e w' ⟨rfl, rfl⟩) | (go_at_call 205; refine (keys_operator _ _).mono ?_; rintro e w' ⟨rfl, rfl⟩))
      all_goals
        go_meet
        refine ⟨congrArg Value.bool ?_, rfl⟩
        rw [← HB2.out]
        simp at ho hr
        simp [namB, *]
  obtain ⟨rfl, rfl⟩ := hcut
  rcases b2 with _ | _
  · go_wp2
    go_ret
    exact ⟨ret1_int (by rw [HE.out]; rfl), hacc⟩
  go_wp2
  all_goals
    go_ret
    refine ⟨ret1_int ?_, hacc⟩
    go_light
    rw [HE.out]
    simp only [beq_iff_eq, beq_eq_false_iff_ne, bne_iff_ne, bne_eq_false_iff_eq, ne_eq] at *
    simp [waiB, fiB, iaB]
    omega

end Go.Proofs.Ytmipnikhgihcpaa
