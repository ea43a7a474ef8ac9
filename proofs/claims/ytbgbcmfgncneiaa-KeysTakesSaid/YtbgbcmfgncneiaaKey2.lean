/- Contract of fairref.PartErr. -/
import Derived.Test.YtbgbcmfgncneiaaKey1
namespace Go.Proofs.Ytbgbcmfgncneiaa
open Go.RowKit
set_option linter.unusedVariables false
set_option linter.unusedSimpArgs false

def cntB (f o s : Int) : Bool := decide (0 ≤ f ∧ f ≤ 999 ∧ 0 ≤ s ∧ s ≤ 999 ∧ (o ≠ 0 ∨ s = 0))
def namB (r o : Int) : Bool := (decide (r = 0) || letB r) && (decide (o = 0) || opB o)
def waiB (r o wt : Int) : Bool := decide (wt = 0) || fiB wt || decide (wt = 114 ∧ o = 0) || decide (wt = 34 ∧ o = 0 ∧ r = 0) || (iaB wt && decide (o ≠ 0))
def partE (f r o s wt : Int) : Int := if (cntB f o s && namB r o && waiB r o wt) = true then 0 else 1
theorem Blk.five {w : World} {B : Nat} {u0 u1 u2 u3 u4 : Value} {e : TypeId} (h : Blk w B #[u0, u1, u2, u3, u4] e) :
    w.cell? ⟨B, 0, none⟩ = some u0 ∧ w.cell? ⟨B, 1, none⟩ = some u1 ∧ w.cell? ⟨B, 2, none⟩ = some u2 ∧ w.cell? ⟨B, 3, none⟩ = some u3 ∧ w.cell? ⟨B, 4, none⟩ = some u4 := ⟨h.cell 0, h.cell 1, h.cell 2, h.cell 3, h.cell 4⟩
theorem Blk.fiveF {w : World} {B : Nat} {u0 u1 u2 u3 u4 : Value} {e : TypeId} (h : Blk w B #[u0, u1, u2, u3, u4] e) :
    w.frozen? ⟨B, 0, none⟩ = false ∧ w.frozen? ⟨B, 1, none⟩ = false ∧ w.frozen? ⟨B, 2, none⟩ = false ∧ w.frozen? ⟨B, 3, none⟩ = false ∧ w.frozen? ⟨B, 4, none⟩ = false := ⟨h.free 0, h.free 1, h.free 2, h.free 3, h.free 4⟩

theorem beqD (a b : Int) : (a == b) = decide (a = b) := by rw [Bool.eq_iff_iff]; simp
theorem zOf (a b : Int) : ∃ z, (a == b) = z := ⟨_, rfl⟩
theorem waiB_of (r o wt : Int) {zo zr z0 z1 z2 : Bool} (ho : (o == 0) = zo) (hr : (r == 0) = zr) (h0 : (wt == 0) = z0) (h1 : (wt == 114) = z1) (h2 : (wt == 34) = z2) :
    waiB r o wt = (z0 || fiB wt || (z1 && zo) || (z2 && zo && zr) || (iaB wt && !zo)) := by
  subst ho hr h0 h1 h2
  simp only [beqD, waiB]
  by_cases a : o = 0 <;> by_cases b : r = 0 <;> simp [a, b]

set_option maxRecDepth 100000 in
set_option maxHeartbeats 2000000 in
theorem ref_partErr (f r o s wt : Int) (w : World) :
    Calls Try.prog 47 #[.agg #[.int .i64 f, .int .i64 r, .int .i64 o, .int .i64 s, .int .i64 wt]] w fun e w' => e = .returned (.int .i64 (partE f r o s wt)) ∧ Below w.heap.size w w' := by
  have hA := Blk.new w #[.int .i64 f, .int .i64 r, .int .i64 o, .int .i64 s, .int .i64 wt] 69
  have hacc := below1 w (.cells #[.int .i64 f, .int .i64 r, .int .i64 o, .int .i64 s, .int .i64 wt] 69)
  go_enter Try.func47, Try.ntmps47
  go_upto_region 1 with fail
  generalize w.alloc (.cells #[.int .i64 f, .int .i64 r, .int .i64 o, .int .i64 s, .int .i64 wt] 69) = w1 at *
  go_cut [3] (fun v wx => v = .bool (cntB f o s) ∧ w1 = wx)
  case first =>
    obtain ⟨c0, c1, c2, c3, c4⟩ := hA.five
    obtain ⟨zo, ho⟩ := zOf o 0
    have ho2 : (o != 0) = !zo := by rw [bne, ho]
    obtain ⟨zs, hs⟩ := zOf s 0
    rcases zo with _ | _ <;> rcases zs with _ | _
    all_goals
      go_wp2
      all_goals
        go_meet
        refine ⟨congrArg Value.bool ?_, rfl⟩
        simp at ho hs
        rw [eq_comm]
        first | (refine decide_eq_true ?_; omega) | (refine decide_eq_false ?_; omega)
  obtain ⟨rfl, rfl⟩ := hcut
  go_upto_region 2 with fail
  go_cut [4] (fun v wx => v = .bool (namB r o) ∧ Blk wx w.heap.size #[.int .i64 f, .int .i64 r, .int .i64 o, .int .i64 s, .int .i64 wt] 69 ∧ Below w.heap.size w wx)
  case first =>
    obtain ⟨c0, c1, c2, c3, c4⟩ := hA.five
    obtain ⟨zo, ho⟩ := zOf o 0
    obtain ⟨zr, hr⟩ := zOf r 0
    rcases zo with _ | _ <;> rcases zr with _ | _
    all_goals
      go_wp2_with (first | (go_at_call 102; refine (ref_isLetter _ _).mono ?_; rintro e w' ⟨rfl, rfl⟩) | (go_at_call 103; refine (ref_in _ _ (by decide) _).mono ?_; rintro e w' ⟨rfl, hb⟩; rw [in_op]; have hacc := below_then hacc hacc.size hb; have hA := hA.below hb hA.lt; obtain ⟨c0, c1, c2, c3, c4⟩ := hA.five))
      all_goals
        go_meet
        refine ⟨congrArg Value.bool ?_, hA, hacc⟩
        simp at ho hr
        simp [namB, *]
  clear hA hacc
  obtain ⟨rfl, hA, hacc⟩ := hcut
  go_upto_region 3 with fail
  go_cut [5] (fun v wx => v = .bool (waiB r o wt) ∧ Below w.heap.size w wx)
  case first =>
    obtain ⟨c0, c1, c2, c3, c4⟩ := hA.five
    obtain ⟨zo, ho⟩ := zOf o 0
    have ho2 : (o != 0) = !zo := by rw [bne, ho]
    obtain ⟨zr, hr⟩ := zOf r 0
    obtain ⟨z0, h0⟩ := zOf wt 0
    obtain ⟨z1, h1⟩ := zOf wt 114
    obtain ⟨z2, h2⟩ := zOf wt 34
    have hw := waiB_of r o wt ho hr h0 h1 h2
    rcases zo with _ | _ <;> rcases zr with _ | _ <;> rcases z0 with _ | _ <;> rcases z1 with _ | _ <;> rcases z2 with _ | _
    all_goals
      have HW := Lib.hid hw
      clear hw
      go_wp2_with (go_at_call 103; refine (ref_in _ _ (by decide) _).mono ?_; rintro e w' ⟨rfl, hb⟩; (first | rw [in_fi] | rw [in_ia]); have hacc := below_then hacc hacc.size hb; have hA := hA.below hb hA.lt; obtain ⟨c0, c1, c2, c3, c4⟩ := hA.five)
      all_goals
        go_meet
        refine ⟨congrArg Value.bool ?_, hacc⟩
        rw [HW.out]
        simp [*]
  clear hA hacc
  obtain ⟨rfl, hacc⟩ := hcut
  obtain ⟨b1, hb1⟩ : ∃ b1, cntB f o s = b1 := ⟨_, rfl⟩
  obtain ⟨b2, hb2⟩ : ∃ b2, namB r o = b2 := ⟨_, rfl⟩
  obtain ⟨b3, hb3⟩ : ∃ b3, waiB r o wt = b3 := ⟨_, rfl⟩
  have HE := Lib.hid (show partE f r o s wt = if (b1 && b2 && b3) = true then 0 else 1 by unfold partE; rw [hb1, hb2, hb3])
  rw [hb1, hb2, hb3]
  clear hb1 hb2 hb3
  rcases b1 with _ | _ <;> rcases b2 with _ | _ <;> rcases b3 with _ | _
  all_goals
    go_wp2
    go_ret
    exact ⟨ret1_int (by rw [HE.out]; rfl), hacc⟩

end Go.Proofs.Ytbgbcmfgncneiaa
