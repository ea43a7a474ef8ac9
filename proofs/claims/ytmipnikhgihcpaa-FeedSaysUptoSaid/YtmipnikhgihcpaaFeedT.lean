/- FeedSays: plain: a round of the machine is a round of Decode. -/
import Derived.Test.YtmipnikhgihcpaaFeedS
namespace Go.Proofs.Ytmipnikhgihcpaa
open Go.RowKit
set_option linter.unusedVariables false
set_option linter.unusedSimpArgs false

theorem wh1 {b : Int} (h : b < 128) : whV b = 1 := by unfold whV; rw [if_pos h]
theorem wh2 {b : Int} (h : 194 ≤ b) (h2 : b < 224) : whV b = 2 := by unfold whV; rw [if_neg (by omega), if_pos (by omega)]
theorem wh3 {b : Int} (h : 224 ≤ b) (h2 : b < 240) : whV b = 3 := by unfold whV; rw [if_neg (by omega), if_neg (by omega), if_pos (by omega)]
theorem wh4 {b : Int} (h : 240 ≤ b) (h2 : b < 245) : whV b = 4 := by unfold whV; rw [if_neg (by omega), if_neg (by omega), if_neg (by omega), if_pos (by omega)]
theorem wh0 {b : Int} (h : 128 ≤ b) (h2 : b < 194 ∨ 245 ≤ b) : whV b = 0 := by unfold whV; rw [if_neg (by omega), if_neg (by omega), if_neg (by omega), if_neg (by omega)]
theorem fit1 {b0 b1 : Int} : fitB [b0] b1 = true ↔ secB b0 b1 := by
  unfold fitB secB; rw [if_pos (show [b0].length = 1 from rfl), decide_eq_true_iff]; rfl
theorem fitN {A : List Int} {b : Int} (h : A.length ≠ 1) : fitB A b = true ↔ 128 ≤ b ∧ b < 192 := by
  unfold fitB; rw [if_neg h, decide_eq_true_iff]; omega
theorem sec2 {b0 b1 : Int} (h : 194 ≤ b0) (h2 : b0 < 224) : secB b0 b1 ↔ 128 ≤ b1 ∧ b1 < 192 := by
  unfold secB secLo secHi
  repeat' split
  all_goals omega
theorem st1 {b0 : Int} {o : List Int} (h : 194 ≤ b0) (h2 : b0 < 245) : MS.take ⟨[], o⟩ b0 = ⟨[b0], o⟩ := by
  have : whV b0 = 2 ∨ whV b0 = 3 ∨ whV b0 = 4 := by
    by_cases a : b0 < 224
    · exact .inl (wh2 h a)
    · by_cases b : b0 < 240
      · exact .inr (.inl (wh3 (by omega) b))
      · exact .inr (.inr (wh4 (by omega) h2))
  exact put_more (by omega) (by omega)
theorem st2 {b0 b1 : Int} {o : List Int} (h : 224 ≤ b0) (h2 : b0 < 245) (hs : secB b0 b1) : MS.take ⟨[b0], o⟩ b1 = ⟨[b0, b1], o⟩ := by
  rw [put_fit (by simp) (fit1.2 hs), if_neg]
  · rfl
  · show ¬ ((2 : Nat) : Int) = whV b0
    by_cases b : b0 < 240
    · rw [wh3 h b]; omega
    · rw [wh4 (by omega) h2]; omega
theorem st3 {b0 b1 b2 : Int} {o : List Int} (h : 240 ≤ b0) (h2 : b0 < 245) (hs : 128 ≤ b2 ∧ b2 < 192) : MS.take ⟨[b0, b1], o⟩ b2 = ⟨[b0, b1, b2], o⟩ := by
  rw [put_fit (by simp) ((fitN (by simp)).2 hs), if_neg]
  · rfl
  · show ¬ ((3 : Nat) : Int) = whV b0
    rw [wh4 h h2]; omega
theorem round_ok (l : List Int) (o : List Int) (hb : Byt l) (h : (gL l).e = 0) : l.foldl MS.take ⟨[], o⟩ = (l.drop (gL l).n.toNat).foldl MS.take ⟨[], o ++ [(gL l).c]⟩ := by
  have hw := g_ways h (hb.at 1)
  unfold gL
  rcases hw with ⟨a, b⟩ | ⟨a, b, c1, d⟩ | ⟨a, b, c1, d, e⟩ | ⟨a, b, c1, d, e, f⟩
  · rw [g_one a b]
    match l, a with
    | b0 :: t, _ =>
      have h0 : ix (b0 :: t) 0 = b0 := rfl
      rw [h0] at b ⊢
      have hB : Byt [b0] := fun x hx => hb x (by simp at hx; simp [hx])
      rw [List.foldl_cons, put_one (wh1 b), gS_mkB hB]
      unfold gL
      rw [show ix [b0] 0 = b0 from rfl, g_one (by simp) b]
      rfl
  · rw [g_two a b c1 d]
    match l, a with
    | b0 :: b1 :: t, _ =>
      have h0 : ix (b0 :: b1 :: t) 0 = b0 := rfl
      have h1 : ix (b0 :: b1 :: t) 1 = b1 := rfl
      rw [h0] at b c1 ⊢; rw [h1] at d ⊢
      have hB : Byt [b0, b1] := fun x hx => hb x (by simp at hx; rcases hx with rfl | rfl <;> simp)
      rw [List.foldl_cons, List.foldl_cons, st1 b (by omega), put_fit (by simp) (fit1.2 ((sec2 b c1).2 d)), if_pos (by show ((2 : Nat) : Int) = whV b0; rw [wh2 b c1]; rfl)]
      rw [show [b0] ++ [b1] = [b0, b1] from rfl, gS_mkB hB]
      unfold gL
      rw [show ix [b0, b1] 0 = b0 from rfl, show ix [b0, b1] 1 = b1 from rfl, g_two (by simp) b c1 d]
      rfl
  · rw [g_three a b c1 d e]
    match l, a with
    | b0 :: b1 :: b2 :: t, _ =>
      have h0 : ix (b0 :: b1 :: b2 :: t) 0 = b0 := rfl
      have h1 : ix (b0 :: b1 :: b2 :: t) 1 = b1 := rfl
      have h2 : ix (b0 :: b1 :: b2 :: t) 2 = b2 := rfl
      rw [h0] at b c1 d ⊢; rw [h1] at d ⊢; rw [h2] at e ⊢
      have hB : Byt [b0, b1, b2] := fun x hx => hb x (by simp at hx; rcases hx with rfl | rfl | rfl <;> simp)
      rw [List.foldl_cons, List.foldl_cons, List.foldl_cons, st1 (by omega) (by omega), st2 b (by omega) d, put_fit (by simp) ((fitN (by simp)).2 e), if_pos (by show ((3 : Nat) : Int) = whV b0; rw [wh3 b c1]; rfl)]
      rw [show [b0, b1] ++ [b2] = [b0, b1, b2] from rfl, gS_mkB hB]
      unfold gL
      rw [show ix [b0, b1, b2] 0 = b0 from rfl, show ix [b0, b1, b2] 1 = b1 from rfl, show ix [b0, b1, b2] 2 = b2 from rfl, g_three (by simp) b c1 d e]
      rfl
  · rw [g_four a b c1 d e f]
    match l, a with
    | b0 :: b1 :: b2 :: b3 :: t, _ =>
      have h0 : ix (b0 :: b1 :: b2 :: b3 :: t) 0 = b0 := rfl
      have h1 : ix (b0 :: b1 :: b2 :: b3 :: t) 1 = b1 := rfl
      have h2 : ix (b0 :: b1 :: b2 :: b3 :: t) 2 = b2 := rfl
      have h3 : ix (b0 :: b1 :: b2 :: b3 :: t) 3 = b3 := rfl
      rw [h0] at b c1 d ⊢; rw [h1] at d ⊢; rw [h2] at e ⊢; rw [h3] at f ⊢
      have hB : Byt [b0, b1, b2, b3] := fun x hx => hb x (by simp at hx; rcases hx with rfl | rfl | rfl | rfl <;> simp)
      rw [List.foldl_cons, List.foldl_cons, List.foldl_cons, List.foldl_cons, st1 (by omega) (by omega), st2 (by omega) (by omega) d, st3 b c1 e, put_fit (by simp) ((fitN (by simp)).2 f), if_pos (by show ((4 : Nat) : Int) = whV b0; rw [wh4 b c1]; rfl)]
      rw [show [b0, b1, b2] ++ [b3] = [b0, b1, b2, b3] from rfl, gS_mkB hB]
      unfold gL
      rw [show ix [b0, b1, b2, b3] 0 = b0 from rfl, show ix [b0, b1, b2, b3] 1 = b1 from rfl, show ix [b0, b1, b2, b3] 2 = b2 from rfl, show ix [b0, b1, b2, b3] 3 = b3 from rfl, g_four (by simp) b c1 d e f]
      rfl
theorem round_beg (l : List Int) (o : List Int) (h : Beg l) : l.foldl MS.take ⟨[], o⟩ = ⟨l, o⟩ := by
  rcases h with ⟨hl, h1, h2⟩ | ⟨hl, h1, h2, h3⟩ | ⟨hl, h1, h2, h3, h4⟩
  · match l, hl with
    | [b0], _ =>
      have h0 : ix [b0] 0 = b0 := rfl
      rw [h0] at h1 h2
      show MS.take ⟨[], o⟩ b0 = _
      rw [st1 h1 (by omega)]
  · match l, hl with
    | [b0, b1], _ =>
      have e0 : ix [b0, b1] 0 = b0 := rfl
      have e1 : ix [b0, b1] 1 = b1 := rfl
      rw [e0] at h1 h2 h3; rw [e1] at h3
      show MS.take (MS.take ⟨[], o⟩ b0) b1 = _
      rw [st1 (by omega) (by omega), st2 h1 (by omega) h3]
  · match l, hl with
    | [b0, b1, b2], _ =>
      have e0 : ix [b0, b1, b2] 0 = b0 := rfl
      have e1 : ix [b0, b1, b2] 1 = b1 := rfl
      have e2 : ix [b0, b1, b2] 2 = b2 := rfl
      rw [e0] at h1 h2 h3; rw [e1] at h3; rw [e2] at h4
      show MS.take (MS.take (MS.take ⟨[], o⟩ b0) b1) b2 = _
      rw [st1 (by omega) (by omega), st2 (by omega) (by omega) h3, st3 h1 (by omega) h4]
open Classical in
noncomputable def skL (l : List Int) : Nat := if 3 < l.length ∧ Beg (l.take 3) then 3 else if 2 < l.length ∧ Beg (l.take 2) then 2 else 1
theorem skL_1 {l : List Int} (h2 : ¬ (2 < l.length ∧ Beg (l.take 2))) (h3 : ¬ (3 < l.length ∧ Beg (l.take 3))) : skL l = 1 := by unfold skL; rw [if_neg h3, if_neg h2]
theorem skL_2 {l : List Int} (h2 : 2 < l.length ∧ Beg (l.take 2)) (h3 : ¬ (3 < l.length ∧ Beg (l.take 3))) : skL l = 2 := by unfold skL; rw [if_neg h3, if_pos h2]
theorem skL_3 {l : List Int} (h3 : 3 < l.length ∧ Beg (l.take 3)) : skL l = 3 := by unfold skL; rw [if_pos h3]
theorem beg2 {b0 b1 : Int} : Beg [b0, b1] ↔ 224 ≤ b0 ∧ b0 ≤ 244 ∧ secB b0 b1 := by
  have e0 : ix [b0, b1] 0 = b0 := rfl
  have e1 : ix [b0, b1] 1 = b1 := rfl
  unfold Beg; rw [e0, e1]; simp
theorem beg3 {b0 b1 b2 : Int} : Beg [b0, b1, b2] ↔ 240 ≤ b0 ∧ b0 ≤ 244 ∧ secB b0 b1 ∧ 128 ≤ b2 ∧ b2 < 192 := by
  have e0 : ix [b0, b1, b2] 0 = b0 := rfl
  have e1 : ix [b0, b1, b2] 1 = b1 := rfl
  have e2 : ix [b0, b1, b2] 2 = b2 := rfl
  unfold Beg; rw [e0, e1, e2]; simp
theorem round_bad (l : List Int) (o : List Int) (hb : Byt l) (hne : l ≠ []) (h : (gL l).e ≠ 0) (hn : ¬ Beg l) : l.foldl MS.take ⟨[], o⟩ = (l.drop (skL l)).foldl MS.take ⟨[], o ++ [65533]⟩ := by
  match l, hne with
  | b0 :: t, _ =>
    have r0 := hb b0 (by simp)
    have a1 : ¬ b0 < 128 := fun hlt => h (by unfold gL; rw [show ix (b0 :: t) 0 = b0 from rfl, g_one (by simp) hlt])
    by_cases hv : b0 < 194 ∨ 245 ≤ b0
    · rw [skL_1 (l := b0 :: t), List.foldl_cons, put_bad (wh0 (by omega) hv)]
      · rfl
      · rintro ⟨h2, h3⟩
        match t, h2 with
        | b1 :: t', _ => have := beg2.1 h3; omega
      · rintro ⟨h2, h3⟩
        match t, h2 with
        | b1 :: b2 :: t', _ => have := beg3.1 h3; omega
    · have h194 : 194 ≤ b0 := by omega
      have h245 : b0 < 245 := by omega
      match t with
      | [] => exact absurd (.inl ⟨rfl, h194, by show b0 ≤ 244; omega⟩) hn
      | b1 :: t1 =>
        rw [List.foldl_cons, st1 h194 h245]
        by_cases hs : secB b0 b1
        · have hs2 := sec_con hs
          have h224 : ¬ b0 < 224 := fun hlt => h (by unfold gL; rw [show ix (b0 :: b1 :: t1) 0 = b0 from rfl, show ix (b0 :: b1 :: t1) 1 = b1 from rfl, g_two (by simp) h194 hlt hs2])
          rw [List.foldl_cons, st2 (by omega) h245 hs]
          match t1 with
          | [] => exact absurd (beg2.2 ⟨by omega, by omega, hs⟩) hn
          | b2 :: t2 =>
            by_cases hc : 128 ≤ b2 ∧ b2 < 192
            · have h240 : ¬ b0 < 240 := fun hlt => h (by unfold gL; rw [show ix (b0 :: b1 :: b2 :: t2) 0 = b0 from rfl, show ix (b0 :: b1 :: b2 :: t2) 1 = b1 from rfl, show ix (b0 :: b1 :: b2 :: t2) 2 = b2 from rfl, g_three (by simp) (by omega) hlt hs hc])
              rw [List.foldl_cons, st3 (by omega) h245 hc]
              match t2 with
              | [] => exact absurd (beg3.2 ⟨by omega, by omega, hs, hc⟩) hn
              | b3 :: t3 =>
                have hd : ¬ (128 ≤ b3 ∧ b3 < 192) := fun hd => h (by unfold gL; rw [show ix (b0 :: b1 :: b2 :: b3 :: t3) 0 = b0 from rfl, show ix (b0 :: b1 :: b2 :: b3 :: t3) 1 = b1 from rfl, show ix (b0 :: b1 :: b2 :: b3 :: t3) 2 = b2 from rfl, show ix (b0 :: b1 :: b2 :: b3 :: t3) 3 = b3 from rfl, g_four (by simp) (by omega) h245 hs hc hd])
                rw [skL_3 (l := b0 :: b1 :: b2 :: b3 :: t3) ⟨by simp, beg3.2 ⟨by omega, by omega, hs, hc⟩⟩]
                rw [List.foldl_cons, put_nofit (by simp) (by
                  cases hf : fitB [b0, b1, b2] b3 with
                  | false => rfl
                  | true => exact absurd ((fitN (by simp)).1 hf) hd)]
                rfl
            · rw [skL_2 (l := b0 :: b1 :: b2 :: t2) ⟨by simp, beg2.2 ⟨by omega, by omega, hs⟩⟩ (by
                rintro ⟨h2, h3⟩
                exact hc (beg3.1 h3).2.2.2)]
              rw [List.foldl_cons, put_nofit (by simp) (by
                cases hf : fitB [b0, b1] b2 with
                | false => rfl
                | true => exact absurd ((fitN (by simp)).1 hf) hc)]
              rfl
        · rw [skL_1 (l := b0 :: b1 :: t1) (by
            rintro ⟨h2, h3⟩
            exact hs (beg2.1 h3).2.2) (by
            rintro ⟨h2, h3⟩
            match t1, h2 with
            | b2 :: t2, _ => exact hs (beg3.1 h3).2.2.1)]
          rw [List.foldl_cons, put_nofit (by simp) (by
            cases hf : fitB [b0] b1 with
            | false => rfl
            | true => exact absurd (fit1.1 hf) hs)]
          rfl

end Go.Proofs.Ytmipnikhgihcpaa
