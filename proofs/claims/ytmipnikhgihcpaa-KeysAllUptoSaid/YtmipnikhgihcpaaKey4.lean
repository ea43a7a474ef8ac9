/- Contract of keys.kindOf. -/
import Derived.Test.YtmipnikhgihcpaaKeyP
namespace Go.Proofs.Ytmipnikhgihcpaa
open Go.RowKit
set_option linter.unusedVariables false
set_option linter.unusedSimpArgs false

theorem kdV_dg {f r o s key cnt : Int} (hc : (if o ≠ 0 then s else f) = cnt) (h : dgB cnt key = true) : kdV f r o s key = 1 := by subst hc; unfold kdV; rw [if_pos h]
theorem kdV_op {f r o s key cnt : Int} (hc : (if o ≠ 0 then s else f) = cnt) (h : dgB cnt key = false) (h2 : opB key = true) : kdV f r o s key = 3 := by
  subst hc; unfold kdV; rw [h, if_neg (by simp), if_pos h2]
/-- what is left behind the digits and the operators -/
def kdW (r o key : Int) : Int :=
  if moB key = true then 5 else if fiB key = true then 4
  else if iaB key = true then (if o ≠ 0 then 8 else 6) else if o ≠ 0 then 0
  else if key = 34 then (if r ≠ 0 then 0 else 2) else if key = 114 then 7 else if plB key = true then 6 else 0
theorem kdV_w {f r o s key cnt : Int} (hc : (if o ≠ 0 then s else f) = cnt) (h : dgB cnt key = false) (h2 : opB key = false) : kdV f r o s key = kdW r o key := by
  subst hc; unfold kdV kdW; rw [h, h2, if_neg (by simp), if_neg (by simp)]

set_option maxRecDepth 100000 in
set_option maxHeartbeats 4000000 in
theorem keys_kindOf (f r o s wt key : Int) (w : World) :
    Calls Try.prog 163 #[.agg #[.int .i64 f, .int .i64 r, .int .i64 o, .int .i64 s, .int .i64 wt], .int .i64 key] w fun e w' => e = .returned (.int .i64 (kdV f r o s key)) ∧ Below w.heap.size w w' := by
  have hA := Blk.new w #[.int .i64 f, .int .i64 r, .int .i64 o, .int .i64 s, .int .i64 wt] 83
  have hacc := below1 w (.cells #[.int .i64 f, .int .i64 r, .int .i64 o, .int .i64 s, .int .i64 wt] 83)
  obtain ⟨cnt, hcnt⟩ : ∃ cnt, (if o ≠ 0 then s else f) = cnt := ⟨_, rfl⟩
  have HC := Lib.hid hcnt
  obtain ⟨zo, ho⟩ := zOf o 0
  have ho2 : (o != 0) = !zo := by rw [bne, ho]
  obtain ⟨z48, h48⟩ := zOf key 48
  have hz : (if zo = true then f else s) = cnt := by
    rw [← hcnt]; subst ho; by_cases h : o = 0 <;> simp [h]
  clear hcnt
  obtain ⟨bd, hbd⟩ : ∃ bd, dgB cnt key = bd := ⟨_, rfl⟩
  have HBD := Lib.hid hbd
  clear hbd
  obtain ⟨bo, hbo⟩ : ∃ bo, opB key = bo := ⟨_, rfl⟩
  have HBO := Lib.hid hbo
  clear hbo
  rcases zo with _ | _ <;> simp only [if_true, if_false, Bool.false_eq_true] at hz <;> subst hz <;> rcases z48 with _ | _
  all_goals
    go_enter Try.func163, Try.ntmps163
    go_upto_region 4 with fail
    generalize w.alloc (.cells #[.int .i64 f, .int .i64 r, .int .i64 o, .int .i64 s, .int .i64 wt] 83) = w1 at *
    obtain ⟨c0, c1, c2, c3, c4⟩ := hA.five
    go_cut [13] (fun v wx => v = .bool bd ∧ w1 = wx)
    case first =>
      go_wp2
      all_goals
        go_meet
        refine ⟨congrArg Value.bool ?_, rfl⟩
        go_light
        rw [← HBD.out]
        simp only [beq_iff_eq, beq_eq_false_iff_ne, ne_eq] at h48
        rw [Bool.eq_iff_iff]
        simp [dgB]
        omega
    obtain ⟨rfl, rfl⟩ := hcut
    rcases bd with _ | _
    · rcases bo with _ | _
      · go_wp2_with (go_at_call 205; refine (keys_operator _ _).mono ?_; rintro e w' ⟨rfl, rfl⟩; rw [HBO.out])
        all_goals
          go_ret
          refine ⟨ret1_int ?_, hacc⟩
          go_light
          rw [kdV_w HC.out HBD.out HBO.out]
          clear HC HBD HBO
          simp only [beq_iff_eq, beq_eq_false_iff_ne, bne_iff_ne, bne_eq_false_iff_eq, ne_eq] at *
          simp [kdW, moB, fiB, iaB, plB, *]
      · go_wp2_with (go_at_call 205; refine (keys_operator _ _).mono ?_; rintro e w' ⟨rfl, rfl⟩; rw [HBO.out])
        go_ret
        exact ⟨ret1_int (kdV_op HC.out HBD.out HBO.out).symm, hacc⟩
    · go_wp2
      go_ret
      exact ⟨ret1_int (kdV_dg HC.out HBD.out).symm, hacc⟩

end Go.Proofs.Ytmipnikhgihcpaa
