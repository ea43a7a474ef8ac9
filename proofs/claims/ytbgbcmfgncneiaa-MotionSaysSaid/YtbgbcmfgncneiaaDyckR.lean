/- Contract of fairref.Partner. -/
import Derived.Test.YtbgbcmfgncneiaaDyckI
import Derived.Test.YtbgbcmfgncneiaaDyck7
namespace Go.Proofs.Ytbgbcmfgncneiaa
open Go.RowKit
set_option linter.unusedVariables false
set_option linter.unusedSimpArgs false

theorem ref_partner (a : Option Addr) (n c : Nat) (l : List Int) (k : Nat) (w : World) (ha : Ints w a l) (hn : l.length = n) (h2 : n ≤ 4096) (hk : k < n) :
    Calls Try.prog 121 #[.slice a n c, .int .i64 (k : Int)] w (PartPost (PartnerP l n k) w) := by
  by_cases h0 : openS (ix l k) = 0
  · refine (ref_partner_none a n c l k w ha hn h2 hk h0).mono ?_
    rintro e w' ⟨r, h1, h3, h4⟩
    exact ⟨r, h1, by unfold PartnerP; rw [if_pos h0]; exact h3, h4⟩
  · have hne : closeS (ix l k) ≠ openS (ix l k) := by
      rcases sevenWays (ix l k) with h | h | h | h | h | h | ⟨h1, h2, h3, h4, h5, h6⟩
      case inr.inr.inr.inr.inr.inr => exact absurd (by simp [openS, h1, h2, h3, h4, h5, h6]) h0
      all_goals rw [h]; decide
    by_cases h1 : ix l k = closeS (ix l k)
    · refine (ref_partner_down a n c l k w ha hn h2 hk _ _ rfl rfl h0 h1 hne).mono ?_
      rintro e w' ⟨r, h5, h3, h4⟩
      exact ⟨r, h5, by unfold PartnerP; rw [if_neg h0, if_pos h1]; exact h3, h4⟩
    · refine (ref_partner_up a n c l k w ha hn h2 hk _ _ rfl rfl h0 h1 hne.symm).mono ?_
      rintro e w' ⟨r, h5, h3, h4⟩
      exact ⟨r, h5, by unfold PartnerP; rw [if_neg h0, if_neg h1]; exact h3, h4⟩

end Go.Proofs.Ytbgbcmfgncneiaa
