/- Contracts of hist.Add, fairref.HistAdd for all inputs. -/
import Derived.Test.YtmipnikhgihcpaaHistE2
import Derived.Test.YtmipnikhgihcpaaHistG2
import Derived.Test.YtmipnikhgihcpaaHistG3
namespace Go.Proofs.Ytmipnikhgihcpaa
open Go.RowKit
set_option linter.unusedVariables false
set_option linter.unusedSimpArgs false

def AResPost (R : Hi → Int → Prop) (P : Nat → Prop) (w : World) (e : Ending) (w' : World) : Prop := ∃ h E, R h E ∧ APost P h E w e w'
theorem hist_Add (lv : Value) (most wher : Int) (sv pv : Value) (older : Bool) (h : Hi) (a : Option Addr) (nn c : Nat) (xs : List Int) (w : World) (r : HiR w lv most wher sv pv older h) (hx : Ints w a xs) (hxn : xs.length = nn) (hx0 : a = none → nn = 0) :
    Calls Try.prog 28 #[.agg (hiC lv most wher sv pv older), .slice a nn c] w (AResPost (AddRes h xs) (fun k => w.heap.size ≤ k) w) := by
  obtain ⟨ls, M, W, scr, pat, O⟩ := h
  by_cases hE : hiE ⟨ls, M, W, scr, pat, O⟩ = 0
  · rcases Nat.lt_or_ge 200 nn with hn | hn
    · exact (hist_Add_large lv most wher sv pv older ls M W scr pat O a nn c w r hE hn _).mono fun e w' h => ⟨hi0, 2, .inr (.inl ⟨hE, by omega, rfl, rfl⟩), h⟩
    · rcases Nat.eq_zero_or_pos nn with h0 | h0
      · exact (hist_Add_empty lv most wher sv pv older ls M W scr pat O a nn c w r xs hE hx hxn hx0 hn h0).mono fun e w' h => ⟨_, 0, .inr (.inr ⟨hE, by omega, rfl, rfl⟩), h⟩
      · exact (hist_Add_push lv most wher sv pv older ls M W scr pat O a nn c w r xs hE hx hxn hx0 hn h0).mono fun e w' h => ⟨_, 0, .inr (.inr ⟨hE, by omega, rfl, rfl⟩), h⟩
  · exact (hist_Add_bad lv most wher sv pv older ls M W scr pat O a nn c w r _ rfl hE _).mono fun e w' h => ⟨hi0, _, .inl ⟨hE, rfl, rfl⟩, h⟩
theorem ref_HistAdd (lv : Value) (most wher : Int) (sv pv : Value) (older : Bool) (h : Hi) (a : Option Addr) (nn c : Nat) (xs : List Int) (w : World) (r : HiR w lv most wher sv pv older h) (hx : Sl w (.slice a nn c) xs) :
    Calls Try.prog 29 #[.agg (hiC lv most wher sv pv older), .slice a nn c] w (AResPost (AddRes h xs) AnyB w) := by
  obtain ⟨ls, M, W, scr, pat, O⟩ := h
  have hxn := hx.get.1
  by_cases hE : hiE ⟨ls, M, W, scr, pat, O⟩ = 0
  · rcases Nat.lt_or_ge 200 nn with hn | hn
    · exact (ref_Add_large lv most wher sv pv older ls M W scr pat O a nn c w r hE hn _).mono fun e w' h => ⟨hi0, 2, .inr (.inl ⟨hE, by omega, rfl, rfl⟩), h⟩
    · rcases Nat.eq_zero_or_pos nn with h0 | h0
      · exact (ref_Add_empty lv most wher sv pv older ls M W scr pat O a nn c w r xs hE hx hn h0).mono fun e w' h => ⟨_, 0, .inr (.inr ⟨hE, by omega, rfl, rfl⟩), h⟩
      · by_cases hf : M < (ls.length : Int) + 1
        · exact (ref_Add_full lv most wher sv pv older ls M W scr pat O a nn c w r xs hE hx hn h0 hf).mono fun e w' h => ⟨_, 0, .inr (.inr ⟨hE, by omega, rfl, rfl⟩), h⟩
        · exact (ref_Add_small lv most wher sv pv older ls M W scr pat O a nn c w r xs hE hx hn h0 (by omega)).mono fun e w' h => ⟨_, 0, .inr (.inr ⟨hE, by omega, rfl, rfl⟩), h⟩
  · exact (ref_Add_bad lv most wher sv pv older ls M W scr pat O a nn c w r _ rfl hE _).mono fun e w' h => ⟨hi0, _, .inl ⟨hE, rfl, rfl⟩, h⟩

end Go.Proofs.Ytmipnikhgihcpaa
