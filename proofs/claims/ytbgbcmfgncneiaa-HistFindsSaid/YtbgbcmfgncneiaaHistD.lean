/- Contract of fairref.HistFind for all inputs. -/
import Derived.Test.YtbgbcmfgncneiaaHistCa
import Derived.Test.YtbgbcmfgncneiaaHistCb
import Derived.Test.YtbgbcmfgncneiaaHistCc
import Derived.Test.YtbgbcmfgncneiaaHistCd
namespace Go.Proofs.Ytbgbcmfgncneiaa
open Go.RowKit
set_option linter.unusedVariables false
set_option linter.unusedSimpArgs false

theorem rightE_bad {h : Hi} {nn : Nat} (hE : hiE h ≠ 0) : rightE h nn 0 = hiE h := by unfold rightE; rw [if_pos hE]
theorem rightE_long {h : Hi} {nn : Nat} (hE : hiE h = 0) (hn : 200 < nn) : rightE h nn 0 = 2 := by unfold rightE; rw [if_neg (by simpa using hE), if_pos hn]
theorem rightE_ok {h : Hi} {nn : Nat} (hE : hiE h = 0) (hn : nn ≤ 200) : rightE h nn 0 = 0 := by unfold rightE; rw [if_neg (by simpa using hE), if_neg (by omega), if_neg (by omega)]

theorem ref_HistFind (lv : Value) (most wher : Int) (sv pv : Value) (older : Bool) (h : Hi) (a : Option Addr) (nn c : Nat) (xs : List Int) (a2 : Option Addr) (np cq : Nat) (ps : List Int) (ol : Bool) (P : Nat → Prop) (w : World) (r : HiP P w lv most wher sv pv older h) (hx : SlP P w (.slice a nn c) xs) (hp : SlP P w (.slice a2 np cq) ps) :
    Calls Try.prog 71 #[.agg (hiC lv most wher sv pv older), .slice a nn c, .slice a2 np cq, .bool ol] w (ResPost (FindRes h xs ps ol) P w) := by
  obtain ⟨ls, M, W, scr, pat, O⟩ := h
  have hxn := hx.get.1
  have hpl := hp.get.1
  by_cases hE : hiE ⟨ls, M, W, scr, pat, O⟩ = 0
  · have hok := hiOk_of hE
    rcases Nat.lt_or_ge 200 nn with hn | hn
    · exact (ref_Find_large lv most wher sv pv older ls M W scr pat O a nn c a2 np cq ol P w r hE (.inl hn)).mono fun e w' h => ⟨hi0, [], 2, .inl ⟨by rw [hxn, rightE_long hE hn]; omega, rfl, rfl, by rw [hxn, rightE_long hE hn]⟩, h⟩
    · have hR := rightE_ok hE hn
      rcases Nat.lt_or_ge 200 np with h2 | h2
      · exact (ref_Find_large lv most wher sv pv older ls M W scr pat O a nn c a2 np cq ol P w r hE (.inr h2)).mono fun e w' h => ⟨hi0, [], 2, .inr (.inl ⟨by rw [hxn]; exact hR, by omega, rfl, rfl, rfl⟩), h⟩
      · rcases Nat.eq_zero_or_pos np with h3 | h3
        · have hpe : ps = [] := List.eq_nil_of_length_eq_zero (by omega)
          by_cases hp' : pat = []
          · exact (ref_Find_none lv most wher sv pv older ls M W scr pat O a nn c a2 np cq ol P w r hE hn h3 hp').mono fun e w' h => ⟨hi0, [], 6, .inr (.inr (.inl ⟨by rw [hxn]; exact hR, by omega, by rw [patOf, if_pos hpe]; exact hp', rfl, rfl, rfl⟩)), h⟩
          · have hq : patOf ⟨ls, M, W, scr, pat, O⟩ ps = pat := by rw [patOf, if_pos hpe]
            cases ol
            · refine (ref_Find_Nn lv most wher sv pv older ls M W scr pat O a nn c a2 np cq P w r xs hE hok hx hn h3 hp').mono ?_
              rintro e w' (⟨k, hk, h⟩ | ⟨hk, h⟩)
              · exact ⟨_, _, _, .inr (.inr (.inr (.inl ⟨by rw [hxn]; exact hR, by omega, by rw [hq]; exact hp', k, by rw [hq]; exact hk, rfl, rfl, rfl⟩))), by rw [hq]; exact h⟩
              · exact ⟨_, _, _, .inr (.inr (.inr (.inr ⟨by rw [hxn]; exact hR, by omega, by rw [hq]; exact hp', by rw [hq]; exact hk, rfl, rfl, rfl⟩))), h⟩
            · refine (ref_Find_No lv most wher sv pv older ls M W scr pat O a nn c a2 np cq P w r xs hE hok hx hn h3 hp').mono ?_
              rintro e w' (⟨k, hk, h⟩ | ⟨hk, h⟩)
              · exact ⟨_, _, _, .inr (.inr (.inr (.inl ⟨by rw [hxn]; exact hR, by omega, by rw [hq]; exact hp', k, by rw [hq]; exact hk, rfl, rfl, rfl⟩))), by rw [hq]; exact h⟩
              · exact ⟨_, _, _, .inr (.inr (.inr (.inr ⟨by rw [hxn]; exact hR, by omega, by rw [hq]; exact hp', by rw [hq]; exact hk, rfl, rfl, rfl⟩))), h⟩
        · have hpe : ps ≠ [] := by rintro rfl; simp at hpl; omega
          have hq : patOf ⟨ls, M, W, scr, pat, O⟩ ps = ps := by rw [patOf, if_neg hpe]
          cases ol
          · refine (ref_Find_Pn lv most wher sv pv older ls M W scr pat O a nn c a2 np cq P w r xs ps hE hok hx hn h3 hp h2).mono ?_
            rintro e w' (⟨k, hk, h⟩ | ⟨hk, h⟩)
            · exact ⟨_, _, _, .inr (.inr (.inr (.inl ⟨by rw [hxn]; exact hR, by omega, by rw [hq]; exact hpe, k, by rw [hq]; exact hk, rfl, rfl, rfl⟩))), by rw [hq]; exact h⟩
            · exact ⟨_, _, _, .inr (.inr (.inr (.inr ⟨by rw [hxn]; exact hR, by omega, by rw [hq]; exact hpe, by rw [hq]; exact hk, rfl, rfl, rfl⟩))), h⟩
          · refine (ref_Find_Po lv most wher sv pv older ls M W scr pat O a nn c a2 np cq P w r xs ps hE hok hx hn h3 hp h2).mono ?_
            rintro e w' (⟨k, hk, h⟩ | ⟨hk, h⟩)
            · exact ⟨_, _, _, .inr (.inr (.inr (.inl ⟨by rw [hxn]; exact hR, by omega, by rw [hq]; exact hpe, k, by rw [hq]; exact hk, rfl, rfl, rfl⟩))), by rw [hq]; exact h⟩
            · exact ⟨_, _, _, .inr (.inr (.inr (.inr ⟨by rw [hxn]; exact hR, by omega, by rw [hq]; exact hpe, by rw [hq]; exact hk, rfl, rfl, rfl⟩))), h⟩
  · exact (ref_Find_bad lv most wher sv pv older ls M W scr pat O a nn c a2 np cq ol P w r _ rfl hE).mono fun e w' h => ⟨hi0, [], _, .inl ⟨by rw [rightE_bad hE]; exact hE, rfl, rfl, by rw [rightE_bad hE]⟩, h⟩

end Go.Proofs.Ytbgbcmfgncneiaa
