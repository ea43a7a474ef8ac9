/- Contracts of Put and Get of both sides, for whatever name. -/
import Derived.Test.YtbgbcmfgncneiaaReg4
namespace Go.Proofs.Ytbgbcmfgncneiaa
open Go.RowKit
set_option linter.unusedVariables false
set_option linter.unusedSimpArgs false

def regJ (name : Int) : Nat := (numI name).toNat
/-- the error of a Put -/
def putEs (X : List (List Int)) (name : Int) (t : List Int) : Int :=
  if numO name = false then 9 else if numM name = true then (if 200 < (rx X (regJ name)).length + t.length then 2 else 0) else if 200 < t.length then 2 else 0
def putYs (X : List (List Int)) (name : Int) (t : List Int) : List (List Int) :=
  if numO name = false then nilX else if numM name = true then (if 200 < (rx X (regJ name)).length + t.length then nilX else putX X (regJ name) (rx X (regJ name) ++ t)) else if 200 < t.length then nilX else putX X (regJ name) t
def getYs (X : List (List Int)) (name : Int) : List Int := if numO name = false then [] else rx X (regJ name)
def getEs (X : List (List Int)) (name : Int) : Int := if numO name = false then 9 else regE (rx X (regJ name))

theorem regJ_lt {name : Int} (h : numO name = true) : regJ name < 27 ∧ numI name = (regJ name : Int) ∧ regI name = (regJ name : Int) := by
  rcases num_cases name with h1 | ⟨_, h2, h3⟩
  · rw [h] at h1; simp at h1
  · unfold regJ regI
    rw [if_pos h]
    omega

theorem put_key {X : List (List Int)} {name : Int} {t : List Int} (hO : numO name = false) : putYs X name t = nilX ∧ putEs X name t = 9 := by simp [putYs, putEs, hO]
theorem put_new {X : List (List Int)} {name : Int} {t : List Int} (hO : numO name = true) (hM : numM name = false) : putYs X name t = (if 200 < t.length then nilX else putX X (regJ name) t) ∧ putEs X name t = (if 200 < t.length then 2 else 0) := by simp [putYs, putEs, hO, hM]
theorem put_more {X : List (List Int)} {name : Int} {t : List Int} (hO : numO name = true) (hM : numM name = true) : putYs X name t = (if 200 < (rx X (regJ name)).length + t.length then nilX else putX X (regJ name) (rx X (regJ name) ++ t)) ∧ putEs X name t = (if 200 < (rx X (regJ name)).length + t.length then 2 else 0) := by simp [putYs, putEs, hO, hM]

theorem reg_put (vs : List Value) (X : List (List Int)) (name : Int) (a : Option Addr) (n c : Nat) (t : List Int) (w : World) (h : Rgs w vs X) (hX : ∀ i, i < 27 → (rx X i).length ≤ 1048576)
    (ht : Ints w a t) (hn : t.length = n) (h0 : a = none → n = 0) (hl : n ≤ 1048576) :
    Calls Try.prog 22 #[.agg (rgA vs), .int .i64 name, .slice a n c] w (PutPost (putYs X name t) (putEs X name t) w) := by
  have hX' : ∀ i, i < 27 → (rx X i).length ≤ 17592186044416 := fun i hi => by have := hX i hi; omega
  cases hO : numO name
  · rw [(put_key hO).1, (put_key hO).2]
    exact reg_put_key vs X name _ w hO
  · obtain ⟨j1, j2, j3⟩ := regJ_lt hO
    cases hM : numM name
    · rw [(put_new hO hM).1, (put_new hO hM).2, hn]
      by_cases h2 : 200 < n
      · rw [if_pos h2, if_pos h2]
        exact reg_put_large vs X name _ false a n c w h j2 j1 hM hO (.inl h2) (by omega)
      · rw [if_neg h2, if_neg h2]
        exact reg_put_new vs X name _ a n c t w h hX' j2 j1 hM hO ht hn h0 (by omega)
    · rw [(put_more hO hM).1, (put_more hO hM).2, hn]
      by_cases h2 : 200 < (rx X (regJ name)).length + n
      · rw [if_pos h2, if_pos h2]
        exact reg_put_large vs X name _ true a n c w h j2 j1 hM hO (by by_cases h3 : 200 < n; exact .inl h3; exact .inr ⟨rfl, by omega, h2⟩) (by omega)
      · rw [if_neg h2, if_neg h2]
        exact reg_put_more vs X name _ a n c t w h hX' j2 j1 hM hO ht hn h0 (by omega) (by omega)

theorem ref_put (vs : List Value) (X : List (List Int)) (name : Int) (a : Option Addr) (n c : Nat) (t : List Int) (w : World) (h : Rgs w vs X) (hX : ∀ i, i < 27 → (rx X i).length ≤ 1048576)
    (ht : Ints w a t) (hn : t.length = n) (hc : n ≤ c) (hc2 : c ≤ 9223372036854775807) (h0 : a = none → n = 0) (hl : n ≤ 1048576) :
    Calls Try.prog 23 #[.agg (rgA vs), .int .i64 name, .slice a n c] w (PutPost (putYs X name t) (putEs X name t) w) := by
  cases hO : numO name
  · rw [(put_key hO).1, (put_key hO).2]
    exact ref_put_key vs name _ w hO
  · obtain ⟨j1, j2, j3⟩ := regJ_lt hO
    cases hM : numM name
    · rw [(put_new hO hM).1, (put_new hO hM).2, hn]
      exact ref_put_new vs X name _ a n c t _ w h j3 j1 hM ht hn hc hc2 h0 rfl
    · rw [(put_more hO hM).1, (put_more hO hM).2, hn]
      exact ref_put_more vs X name _ a n c t w h (hX _ j1) j3 j1 hM ht hn h0 hl

theorem reg_get (vs : List Value) (X : List (List Int)) (name : Int) (w : World) (h : Rgs w vs X) (hX : ∀ i, i < 27 → (rx X i).length ≤ 1048576) :
    Calls Try.prog 24 #[.agg (rgA vs), .int .i64 name] w (GetVPost (getYs X name) (getEs X name) w) := by
  cases hO : numO name
  · rw [getYs, getEs, if_pos hO, if_pos hO]
    exact reg_get_key vs name w hO
  · obtain ⟨j1, j2, j3⟩ := regJ_lt hO
    rw [getYs, getEs, if_neg (by simp [hO]), if_neg (by simp [hO])]
    exact reg_get_in vs X name _ w h (by have := hX _ j1; omega) j2 j1 hO
theorem ref_get (vs : List Value) (X : List (List Int)) (name : Int) (w : World) (h : Rgs w vs X) :
    Calls Try.prog 25 #[.agg (rgA vs), .int .i64 name] w (GetVPost (getYs X name) (getEs X name) w) := by
  cases hO : numO name
  · rw [getYs, getEs, if_pos hO, if_pos hO]
    exact ref_get_key vs name w hO
  · obtain ⟨j1, j2, j3⟩ := regJ_lt hO
    rw [getYs, getEs, if_neg (by simp [hO]), if_neg (by simp [hO])]
    exact ref_get_in vs X name _ w h j3 j1

end Go.Proofs.Ytbgbcmfgncneiaa
