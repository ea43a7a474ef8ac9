/- FeedSays: plain: beginnings as the document looks for them; a round of the machine and of Decode. -/
import Derived.Test.YtmipnikhgihcpaaFeedQ
namespace Go.Proofs.Ytmipnikhgihcpaa
open Go.RowKit
set_option linter.unusedVariables false
set_option linter.unusedSimpArgs false

theorem ix_app (l c : List Int) (j : Nat) : ix (l ++ c) j = if j < l.length then ix l j else ix c (j - l.length) := by
  split
  · rename_i h; exact ix_append_left h
  · rename_i h
    have := ix_append_right (xs := l) (ys := c) (i := j - l.length)
    rwa [show l.length + (j - l.length) = j by omega] at this
/-- the candidates as numbers -/
def cdL : List (List Int) := [[128], [191], [128, 128], [191, 191], [128, 128, 128], [191, 191, 191], [191, 128], [191, 128, 128], [144, 128, 128], [159, 128], [143, 128, 128]]
theorem cnd_bs {k : Nat} (hk : k < 11) : bsL (cnd k) = cdL.getD k [] := by
  obtain rfl | rfl | rfl | rfl | rfl | rfl | rfl | rfl | rfl | rfl | rfl : k = 0 ∨ k = 1 ∨ k = 2 ∨ k = 3 ∨ k = 4 ∨ k = 5 ∨ k = 6 ∨ k = 7 ∨ k = 8 ∨ k = 9 ∨ k = 10 := by omega
  all_goals decide
def cdB (l c : List Int) : Prop := (gL (l ++ c)).e = 0 ∧ (gL (l ++ c)).n = ((l.length + c.length : Nat) : Int)
theorem cand_iff {s : ByteArray} {k : Nat} (hk : k < 11) : candB s k = true ↔ cdB (bsL s) (cdL.getD k []) := by
  unfold candB cdB
  rw [decide_eq_true_iff, gS_bsL, bsL_app, cnd_bs hk, bsL_len]
  have : (cnd k).size = (cdL.getD k []).length := by rw [← cnd_bs hk, bsL_len]
  rw [this]
/-- a candidate that makes a character shows a beginning -/
theorem beg_of_cd {l c : List Int} (hl : Byt l) (hc : Byt c) (h1 : 1 ≤ l.length) (h2 : 1 ≤ c.length) (h : cdB l c) : Beg l := by
  obtain ⟨he, hn⟩ := h
  have hb : Byt (l ++ c) := fun x hx => (List.mem_append.1 hx).elim (hl x) (hc x)
  have hw := g_ways (n := (l ++ c).length) (b0 := ix (l ++ c) 0) (b1 := ix (l ++ c) 1) (b2 := ix (l ++ c) 2) (b3 := ix (l ++ c) 3) he (hb.at 1)
  have hlen : (l ++ c).length = l.length + c.length := List.length_append
  have x0 : ix (l ++ c) 0 = ix l 0 := ix_append_left (by omega)
  unfold gL at hn
  unfold Beg
  rcases hw with ⟨a, b⟩ | ⟨a, b, c1, d⟩ | ⟨a, b, c1, d, e⟩ | ⟨a, b, c1, d, e, f⟩
  · rw [g_one a b] at hn; simp only at hn; omega
  · rw [g_two a b c1 d] at hn; simp only at hn
    exact .inl ⟨by omega, by omega, by omega⟩
  · rw [g_three a b c1 d e] at hn; simp only at hn
    by_cases h3 : l.length = 1
    · exact .inl ⟨h3, by omega, by omega⟩
    · have x1 : ix (l ++ c) 1 = ix l 1 := ix_append_left (by omega)
      rw [x0, x1] at d
      exact .inr (.inl ⟨by omega, by omega, by omega, d⟩)
  · rw [g_four a b c1 d e f] at hn; simp only at hn
    by_cases h3 : l.length = 1
    · exact .inl ⟨h3, by omega, by omega⟩
    · have x1 : ix (l ++ c) 1 = ix l 1 := ix_append_left (by omega)
      rw [x0, x1] at d
      by_cases h4 : l.length = 2
      · exact .inr (.inl ⟨h4, by omega, by omega, d⟩)
      · have x2 : ix (l ++ c) 2 = ix l 2 := ix_append_left (by omega)
        rw [x2] at e
        exact .inr (.inr ⟨by omega, by omega, by omega, d, e⟩)
theorem cd_of {l : List Int} (h : Beg l) : ∃ k, k < 11 ∧ cdB l (cdL.getD k []) := by
  rcases h with ⟨hl, h1, h2⟩ | ⟨hl, h1, h2, h3⟩ | ⟨hl, h1, h2, h3, h4⟩
  · obtain ⟨x, rfl⟩ : ∃ x, l = [x] := by
      match l, hl with
      | [x], _ => exact ⟨x, rfl⟩
    have hx : ix [x] 0 = x := rfl
    rw [hx] at h1 h2
    by_cases a : x < 224
    · refine ⟨0, by omega, ?_⟩
      unfold cdB gL
      show (gV 2 x 128 _ _).e = 0 ∧ (gV 2 x 128 _ _).n = 2
      rw [g_two (by omega) h1 a (by omega)]; exact ⟨rfl, rfl⟩
    · by_cases b : x < 240
      · by_cases c : x = 224
        · refine ⟨3, by omega, ?_⟩
          unfold cdB gL
          show (gV 3 x 191 191 _).e = 0 ∧ (gV 3 x 191 191 _).n = 3
          rw [g_three (by omega) (by omega) b (by unfold secB secLo secHi; subst c; simp) (by omega)]; exact ⟨rfl, rfl⟩
        · refine ⟨2, by omega, ?_⟩
          unfold cdB gL
          show (gV 3 x 128 128 _).e = 0 ∧ (gV 3 x 128 128 _).n = 3
          rw [g_three (by omega) (by omega) b (by unfold secB secLo secHi; repeat' split
                                                  all_goals omega) (by omega)]; exact ⟨rfl, rfl⟩
      · by_cases c : x = 240
        · refine ⟨8, by omega, ?_⟩
          unfold cdB gL
          show (gV 4 x 144 128 128).e = 0 ∧ (gV 4 x 144 128 128).n = 4
          rw [g_four (by omega) (by omega) (by omega) (by unfold secB secLo secHi; subst c; simp) (by omega) (by omega)]; exact ⟨rfl, rfl⟩
        · refine ⟨4, by omega, ?_⟩
          unfold cdB gL
          show (gV 4 x 128 128 128).e = 0 ∧ (gV 4 x 128 128 128).n = 4
          rw [g_four (by omega) (by omega) (by omega) (by unfold secB secLo secHi; repeat' split
                                                          all_goals omega) (by omega) (by omega)]; exact ⟨rfl, rfl⟩
  · obtain ⟨x, y, rfl⟩ : ∃ x y, l = [x, y] := by
      match l, hl with
      | [x, y], _ => exact ⟨x, y, rfl⟩
    have hx : ix [x, y] 0 = x := rfl
    have hy : ix [x, y] 1 = y := rfl
    rw [hx] at h1 h2 h3
    rw [hy] at h3
    by_cases b : x < 240
    · refine ⟨0, by omega, ?_⟩
      unfold cdB gL
      show (gV 3 x y 128 _).e = 0 ∧ (gV 3 x y 128 _).n = 3
      rw [g_three (by omega) h1 b h3 (by omega)]; exact ⟨rfl, rfl⟩
    · refine ⟨2, by omega, ?_⟩
      unfold cdB gL
      show (gV 4 x y 128 128).e = 0 ∧ (gV 4 x y 128 128).n = 4
      rw [g_four (by omega) (by omega) (by omega) h3 (by omega) (by omega)]; exact ⟨rfl, rfl⟩
  · obtain ⟨x, y, z, rfl⟩ : ∃ x y z, l = [x, y, z] := by
      match l, hl with
      | [x, y, z], _ => exact ⟨x, y, z, rfl⟩
    have hx : ix [x, y, z] 0 = x := rfl
    have hy : ix [x, y, z] 1 = y := rfl
    have hz : ix [x, y, z] 2 = z := rfl
    rw [hx] at h1 h2 h3
    rw [hy] at h3
    rw [hz] at h4
    refine ⟨0, by omega, ?_⟩
    unfold cdB gL
    show (gV 4 x y z 128).e = 0 ∧ (gV 4 x y z 128).n = 4
    rw [g_four (by omega) h1 (by omega) h3 h4 (by omega)]; exact ⟨rfl, rfl⟩
theorem begV_iff (s : ByteArray) : begV s = true ↔ Beg (bsL s) := by
  constructor
  · intro h
    unfold begV at h
    rw [Bool.and_eq_true, decide_eq_true_iff, List.any_eq_true] at h
    obtain ⟨⟨h1, h2⟩, k, hk, hc⟩ := h
    have hk := List.mem_range.1 hk
    refine beg_of_cd (byt_bsL s) ?_ (by rw [bsL_len]; omega) ?_ ((cand_iff hk).1 hc)
    · rw [← cnd_bs hk]; exact byt_bsL _
    · obtain rfl | rfl | rfl | rfl | rfl | rfl | rfl | rfl | rfl | rfl | rfl : k = 0 ∨ k = 1 ∨ k = 2 ∨ k = 3 ∨ k = 4 ∨ k = 5 ∨ k = 6 ∨ k = 7 ∨ k = 8 ∨ k = 9 ∨ k = 10 := by omega
      all_goals decide
  · intro h
    have hl : 0 < s.size ∧ s.size ≤ 3 := by
      have := bsL_len s
      unfold Beg at h
      omega
    obtain ⟨k, hk, hc⟩ := cd_of h
    exact beg_yes hl.1 hl.2 hk ((cand_iff hk).2 hc)

end Go.Proofs.Ytmipnikhgihcpaa
