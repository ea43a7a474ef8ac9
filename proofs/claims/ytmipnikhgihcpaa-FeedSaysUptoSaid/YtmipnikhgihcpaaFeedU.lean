/- FeedSays: plain: the machine over a string is Decode; what is right. -/
import Derived.Test.YtmipnikhgihcpaaFeedT
namespace Go.Proofs.Ytmipnikhgihcpaa
open Go.RowKit
set_option linter.unusedVariables false
set_option linter.unusedSimpArgs false

theorem skp_skL (s : ByteArray) : skp s = skL (bsL s) := by
  have h3 : (3 < s.size ∧ begV (s.extract 0 3) = true) ↔ (3 < (bsL s).length ∧ Beg ((bsL s).take 3)) := by
    rw [bsL_len]
    constructor
    · rintro ⟨a, b⟩; exact ⟨a, by rw [← bsL_to s (by omega)]; exact (begV_iff _).1 b⟩
    · rintro ⟨a, b⟩; exact ⟨a, (begV_iff _).2 (by rw [bsL_to s (by omega)]; exact b)⟩
  have h2 : (2 < s.size ∧ begV (s.extract 0 2) = true) ↔ (2 < (bsL s).length ∧ Beg ((bsL s).take 2)) := by
    rw [bsL_len]
    constructor
    · rintro ⟨a, b⟩; exact ⟨a, by rw [← bsL_to s (by omega)]; exact (begV_iff _).1 b⟩
    · rintro ⟨a, b⟩; exact ⟨a, (begV_iff _).2 (by rw [bsL_to s (by omega)]; exact b)⟩
  unfold skp skpA skL
  by_cases a : 3 < s.size ∧ begV (s.extract 0 3) = true
  · rw [if_pos a, if_pos (h3.1 a)]
  · rw [if_neg a, if_neg (fun h => a (h3.2 h))]
    by_cases b : 2 < s.size ∧ begV (s.extract 0 2) = true
    · rw [if_pos b, if_pos (h2.1 b)]
    · rw [if_neg b, if_neg (fun h => b (h2.2 h))]
theorem bsL_nil {s : ByteArray} (h : s.size = 0) : bsL s = [] := List.eq_nil_of_length_eq_zero (by rw [bsL_len]; exact h)
theorem run_dec : ∀ (f : Nat) (s : ByteArray) (o : List Int), s.size ≤ f → (bsL s).foldl MS.take ⟨[], o⟩ = ⟨bsL (decF f s o).q, (decF f s o).l⟩ := by
  intro f
  induction f with
  | zero => intro s o hs; rw [bsL_nil (by omega)]; rfl
  | succ f ih =>
    intro s o hs
    rw [decF]
    by_cases h0 : s.size = 0
    · rw [if_pos h0, bsL_nil h0]; rfl
    · rw [if_neg h0]
      have hne : bsL s ≠ [] := by intro e; have := bsL_len s; rw [e] at this; simp at this; omega
      by_cases he : (gS s).e = 0
      · rw [if_pos he]
        have hn := gS_n he
        rw [round_ok (bsL s) o (byt_bsL s) (by rw [← gS_bsL]; exact he), ← gS_bsL, ← bsL_cut]
        exact ih _ _ (by rw [cut_size]; omega)
      · rw [if_neg he]
        by_cases hb : begV s = true
        · rw [if_pos hb, round_beg _ _ ((begV_iff s).1 hb)]
        · rw [if_neg hb, round_bad (bsL s) o (byt_bsL s) hne (by rw [← gS_bsL]; exact he) (fun h => hb ((begV_iff s).2 h)), ← skp_skL, ← bsL_cut]
          exact ih _ _ (by rw [cut_size]; have := skp_bd s; omega)
theorem runS_dec (s : ByteArray) : runS s = ⟨bsL (decS s).q, (decS s).l⟩ := run_dec s.size s [] (Nat.le_refl _)
theorem runS_right {s : ByteArray} (h : s.size = 0 ∨ begV s = true) : runS s = ⟨bsL s, []⟩ := by
  rcases h with h | h
  · unfold runS; rw [bsL_nil h]; rfl
  · exact round_beg _ _ ((begV_iff s).1 h)
theorem fold_grows (l : List Int) : ∀ (m : MS), m.out ≠ [] → (l.foldl MS.take m).out ≠ [] := by
  induction l with
  | nil => intro m h; exact h
  | cons a r ih =>
    intro m h
    rw [List.foldl_cons]
    refine ih _ ?_
    have hb : m.brk.out ≠ [] := by unfold MS.brk; split
                                   · exact h
                                   · simp
    have hp : ∀ m : MS, m.out ≠ [] → (m.put a).out ≠ [] := by
      intro m h
      unfold MS.put
      repeat' split
      · simp
      · simp
      · exact h
    unfold MS.take
    split
    · exact hp _ hb
    · exact hp _ h
theorem runS_wrong {s : ByteArray} (h0 : s.size ≠ 0) (hb : begV s = false) : (runS s).out ≠ [] := by
  have hne : bsL s ≠ [] := by intro e; have := bsL_len s; rw [e] at this; simp at this; omega
  have hnb : ¬ Beg (bsL s) := fun h => by rw [(begV_iff s).2 h] at hb; cases hb
  unfold runS runL
  by_cases he : (gL (bsL s)).e = 0
  · rw [round_ok (bsL s) [] (byt_bsL s) he]
    exact fold_grows _ _ (by simp)
  · rw [round_bad (bsL s) [] (byt_bsL s) hne he hnb]
    exact fold_grows _ _ (by simp)

end Go.Proofs.Ytmipnikhgihcpaa
