/- Contract of paint.Signs where something is not right. -/
import Derived.Test.YtmipnikhgihcpaaPnt3
namespace Go.Proofs.Ytmipnikhgihcpaa
open Go.RowKit
set_option linter.unusedVariables false
set_option linter.unusedSimpArgs false

theorem retSE {a c : Int} (h : a = c) : Ending.returned (.tuple #[.slice none 0 0, .int .i64 a]) = Ending.returned (.tuple #[.slice none 0 0, .int .i64 c]) := by rw [h]
/-- what is not right of two rows -/
def badE (A B : List Int) (p q : Int) : Int := if rowErr A p ≠ 0 then rowErr A p else if rowErr B q ≠ 0 then rowErr B q else if A.length ≠ B.length then 1 else 0

set_option maxRecDepth 100000 in
set_option maxHeartbeats 2000000 in
theorem paint_signs_bad (aa ba : Option Addr) (na nb ca cb : Nat) (p q : Int) (A B : List Int) (w : World) (ha : Sl w (.slice aa na ca) A) (hb : Sl w (.slice ba nb cb) B) (hbad : badE A B p q ≠ 0) :
    Calls Try.prog 37 #[.agg #[.slice aa na ca, .int .i64 p], .agg #[.slice ba nb cb, .int .i64 q]] w (fun e w' => e = .returned (.tuple #[.slice none 0 0, .int .i64 (badE A B p q)]) ∧ Below w.heap.size w w') := by
  obtain ⟨a1, a2, a3, a4, a5⟩ := ha.get
  obtain ⟨b1, b2, b3, b4, b5⟩ := hb.get
  have HAL := Lib.hid a1; have HBL := Lib.hid b1
  have hB2 := (Blk.new w #[.slice aa na ca, .int .i64 p] 59).alloc (.cells #[.slice ba nb cb, .int .i64 q] 59)
  have hB3 := Blk.new (w.alloc (.cells #[.slice aa na ca, .int .i64 p] 59)) #[.slice ba nb cb, .int .i64 q] 59
  rw [World.size_alloc] at hB3
  have hacc := below2 w (.cells #[.slice aa na ca, .int .i64 p] 59) (.cells #[.slice ba nb cb, .int .i64 q] 59)
  have HA := Lib.hid (a4.below hacc); have HB := Lib.hid (b4.below hacc)
  have hsz : w.heap.size ≤ ((w.alloc (.cells #[.slice aa na ca, .int .i64 p] 59)).alloc (.cells #[.slice ba nb cb, .int .i64 q] 59)).heap.size := by simp; omega
  have HBAD := Lib.hid hbad
  clear a1 b1 a4 b4 ha hb hbad
  go_enter Try.func37, Try.ntmps37
  go_upto_region 1 with fail
  generalize ((w.alloc (.cells #[.slice aa na ca, .int .i64 p] 59)).alloc (.cells #[.slice ba nb cb, .int .i64 q] 59)) = w1 at *
  obtain ⟨c0, c1, -⟩ := hB2.two
  obtain ⟨d0, d1, -⟩ := hB3.two
  go_wp2_with fail
  refine (term_check aa na ca A p _ HA.out HAL.out (by omega)).mono ?_
  rintro e w2 ⟨rfl, hb2⟩
  have hacc2 := below_then hacc hsz hb2
  obtain ⟨E1, hE1⟩ : ∃ E, rowErr A p = E := ⟨_, rfl⟩
  rw [hE1]
  by_cases h1 : E1 = 0
  · subst h1
    have HE1 := Lib.hid hE1
    have HB2 := Lib.hid (HB.out.below hb2)
    have hB2' := hB2.below hb2 hB2.lt; have hB3' := hB3.below hb2 hB3.lt
    have hz2 := hb2.size
    clear c0 c1 d0 d1 hE1 hb2
    obtain ⟨c0, c1, -⟩ := hB2'.two
    obtain ⟨d0, d1, -⟩ := hB3'.two
    go_wp2_with fail
    refine (term_check ba nb cb B q _ HB2.out HBL.out (by omega)).mono ?_
    rintro e w3 ⟨rfl, hb3⟩
    have hacc3 := below_then hacc2 (Nat.le_trans hsz hz2) hb3
    obtain ⟨E2, hE2⟩ : ∃ E, rowErr B q = E := ⟨_, rfl⟩
    rw [hE2]
    by_cases h2 : E2 = 0
    · subst h2
      have hl : na ≠ nb := by
        intro h
        apply HBAD.out
        unfold badE
        rw [if_neg (by rw [HE1.out]; simp), if_neg (by rw [hE2]; simp), if_neg (by rw [HAL.out, HBL.out]; simp [h])]
      have hEq : badE A B p q = 1 := by
        unfold badE
        rw [if_neg (by rw [HE1.out]; simp), if_neg (by rw [hE2]; simp), if_pos (by rw [HAL.out, HBL.out]; exact hl)]
      have hB2'' := hB2'.below hb3 hB2'.lt; have hB3'' := hB3'.below hb3 hB3'.lt
      clear c0 c1 d0 d1
      obtain ⟨c0, c1, -⟩ := hB2''.two
      obtain ⟨d0, d1, -⟩ := hB3''.two
      have hd : ((na : Int) == (nb : Int)) = false := by simp; omega
      have HEQ := Lib.hid hEq
      clear hE2 hEq hl
      go_wp2
      go_ret2
      exact ⟨retSE HEQ.out.symm, hacc3⟩
    · have hd : (E2 == 0) = false := by simpa using h2
      have HEQ := Lib.hid (show badE A B p q = E2 by unfold badE; rw [if_neg (by rw [HE1.out]; simp), if_pos (by rw [hE2]; exact h2)]; exact hE2)
      clear hE2 h2
      go_wp2
      go_ret2
      exact ⟨retSE HEQ.out.symm, hacc3⟩
  · have hd : (E1 == 0) = false := by simpa using h1
    have HEQ := Lib.hid (show badE A B p q = E1 by unfold badE; rw [if_pos (by rw [hE1]; exact h1)]; exact hE1)
    clear hE1 h1
    go_wp2
    go_ret2
    exact ⟨retSE HEQ.out.symm, hacc2⟩

theorem rowErr_zero {xs : List Int} {p : Int} (h : rowErr xs p = 0) : 2 ≤ xs.length ∧ xs.length ≤ 120 ∧ 0 ≤ p ∧ p ≤ (xs.length : Int) := by
  by_cases hb : xs.length < 2 ∨ 120 < xs.length ∨ p < 0 ∨ (xs.length : Int) < p
  · rw [rowErr_bad hb] at h; simp at h
  · omega
theorem badE_zero {A B : List Int} {p q : Int} (h : badE A B p q = 0) : rowErr A p = 0 ∧ rowErr B q = 0 ∧ A.length = B.length := by
  unfold badE at h
  by_cases h1 : rowErr A p = 0
  · rw [if_neg (by simpa using h1)] at h
    by_cases h2 : rowErr B q = 0
    · rw [if_neg (by simpa using h2)] at h
      by_cases h3 : A.length = B.length
      · exact ⟨h1, h2, h3⟩
      · rw [if_pos h3] at h; simp at h
    · rw [if_pos h2] at h; exact absurd h h2
  · rw [if_pos h1] at h; exact absurd h h1

end Go.Proofs.Ytmipnikhgihcpaa
