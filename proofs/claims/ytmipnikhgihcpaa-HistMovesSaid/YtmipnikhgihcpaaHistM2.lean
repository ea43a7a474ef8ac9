/- Contract of fairref.HistMove for all inputs. -/
import Derived.Test.YtmipnikhgihcpaaHistM
namespace Go.Proofs.Ytmipnikhgihcpaa
open Go.RowKit
set_option linter.unusedVariables false
set_option linter.unusedSimpArgs false

theorem rightE_bad' {h : Hi} {nn : Nat} {n : Int} (hE : hiE h ≠ 0) : rightE h nn n = hiE h := by unfold rightE; rw [if_pos hE]
theorem rightE_long' {h : Hi} {nn : Nat} {n : Int} (hE : hiE h = 0) (hn : 200 < nn) : rightE h nn n = 2 := by unfold rightE; rw [if_neg (by simpa using hE), if_pos hn]
theorem rightE_arg {h : Hi} {nn : Nat} {n : Int} (hE : hiE h = 0) (hn : nn ≤ 200) (h2 : n < 0 ∨ 999 < n) : rightE h nn n = 1 := by unfold rightE; rw [if_neg (by simpa using hE), if_neg (by omega), if_pos h2]
theorem rightE_ok' {h : Hi} {nn : Nat} {n : Int} (hE : hiE h = 0) (hn : nn ≤ 200) (h2 : ¬ (n < 0 ∨ 999 < n)) : rightE h nn n = 0 := by unfold rightE; rw [if_neg (by simpa using hE), if_neg (by omega), if_neg h2]

theorem ref_HistMove (lv : Value) (most wher : Int) (sv pv : Value) (older : Bool) (h : Hi) (a : Option Addr) (nn c : Nat) (n way : Int) (hway : way = -1 ∨ way = 1 ∨ way = 0) (xs : List Int) (P : Nat → Prop) (w : World) (r : HiP P w lv most wher sv pv older h) (hx : SlP P w (.slice a nn c) xs) :
    Calls Try.prog 36 #[.agg (hiC lv most wher sv pv older), .slice a nn c, .int .i64 n, .int .i64 way] w (ResPost (MoveRes h xs n way) P w) := by
  obtain ⟨ls, M, W, scr, pat, O⟩ := h
  have hxn := hx.get.1
  by_cases hE : hiE ⟨ls, M, W, scr, pat, O⟩ = 0
  · rcases Nat.lt_or_ge 200 nn with hn | hn
    · exact (ref_Move_large lv most wher sv pv older ls M W scr pat O a nn c n way P w r hE hn).mono fun e w' h => ⟨hi0, [], 2, .inl ⟨by rw [hxn, rightE_long' hE hn]; omega, rfl, rfl, by rw [hxn, rightE_long' hE hn]⟩, h⟩
    · by_cases h2 : n < 0 ∨ 999 < n
      · exact (ref_Move_arg lv most wher sv pv older ls M W scr pat O a nn c n way P w r hE hn h2).mono fun e w' h => ⟨hi0, [], 1, .inl ⟨by rw [hxn, rightE_arg hE hn h2]; omega, rfl, rfl, by rw [hxn, rightE_arg hE hn h2]⟩, h⟩
      · have hR := rightE_ok' (n := n) hE hn h2
        have hW0 : 0 ≤ W := (hiOk_of hE).wher1
        rcases hway with rfl | rfl | rfl
        · by_cases hf : W < max 1 n
          · exact (ref_Move_u_fail lv most wher sv pv older ls M W scr pat O a nn c n P w r hE hn (by omega) (by omega) hf).mono fun e w' h => ⟨hi0, [], 5, .inr (.inl ⟨by rw [hxn]; exact hR, by rw [moveW, if_pos rfl, if_pos hf], rfl, rfl, rfl⟩), h⟩
          · obtain ⟨wh, hwh⟩ : ∃ wh : Nat, moveW ⟨ls, M, W, scr, pat, O⟩ n (-1) = some wh ∧ (wh : Int) = W - max 1 n := by
              rw [moveW, if_pos rfl, if_neg hf]
              exact ⟨_, rfl, by first | omega | (simp only; omega)⟩
            exact (ref_Move_u_ok lv most wher sv pv older ls M W scr pat O a nn c n P w r hE hn (by omega) (by omega) xs hx wh hf hwh.2).mono fun e w' h => ⟨_, _, 0, .inr (.inr ⟨by rw [hxn]; exact hR, wh, hwh.1, rfl, rfl, rfl⟩), h⟩
        · by_cases hf : (ls.length : Int) - W < max 1 n
          · exact (ref_Move_d_fail lv most wher sv pv older ls M W scr pat O a nn c n P w r hE hn (by omega) (by omega) hf).mono fun e w' h => ⟨hi0, [], 5, .inr (.inl ⟨by rw [hxn]; exact hR, by rw [moveW, if_neg (by decide), if_pos rfl, if_pos hf], rfl, rfl, rfl⟩), h⟩
          · obtain ⟨wh, hwh⟩ : ∃ wh : Nat, moveW ⟨ls, M, W, scr, pat, O⟩ n 1 = some wh ∧ (wh : Int) = W + max 1 n := by
              rw [moveW, if_neg (by decide), if_pos rfl, if_neg hf]
              exact ⟨_, rfl, by first | omega | (simp only; omega)⟩
            exact (ref_Move_d_ok lv most wher sv pv older ls M W scr pat O a nn c n P w r hE hn (by omega) (by omega) xs hx wh hf hwh.2).mono fun e w' h => ⟨_, _, 0, .inr (.inr ⟨by rw [hxn]; exact hR, wh, hwh.1, rfl, rfl, rfl⟩), h⟩
        · by_cases hf : (ls.length : Int) < n ∨ ls.length = 0
          · exact (ref_Move_j_fail lv most wher sv pv older ls M W scr pat O a nn c n P w r hE hn (by omega) (by omega) hf).mono fun e w' h => ⟨hi0, [], 5, .inr (.inl ⟨by rw [hxn]; exact hR, by rw [moveW, if_neg (by decide), if_neg (by decide), if_pos hf], rfl, rfl, rfl⟩), h⟩
          · obtain ⟨wh, hwh⟩ : ∃ wh : Nat, moveW ⟨ls, M, W, scr, pat, O⟩ n 0 = some wh ∧ (wh : Int) = max 0 (n - 1) := by
              rw [moveW, if_neg (by decide), if_neg (by decide), if_neg hf]
              exact ⟨_, rfl, by first | omega | (simp only; omega)⟩
            exact (ref_Move_j_ok lv most wher sv pv older ls M W scr pat O a nn c n P w r hE hn (by omega) (by omega) xs hx wh hf hwh.2).mono fun e w' h => ⟨_, _, 0, .inr (.inr ⟨by rw [hxn]; exact hR, wh, hwh.1, rfl, rfl, rfl⟩), h⟩
  · exact (ref_Move_bad lv most wher sv pv older ls M W scr pat O a nn c n way P w r _ rfl hE).mono fun e w' h => ⟨hi0, [], _, .inl ⟨by rw [rightE_bad' hE]; exact hE, rfl, rfl, by rw [rightE_bad' hE]⟩, h⟩

end Go.Proofs.Ytmipnikhgihcpaa
