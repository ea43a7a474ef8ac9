/- Plain facts on kinds of characters and words: no program stands here. -/
import Derived.Test.YtbgbcmfgncneiaaBase
namespace Go.Proofs.Ytbgbcmfgncneiaa
set_option linter.unusedVariables false

def kindS (c : Int) (big : Bool) : Int :=
  if c = 32 ∨ c = 9 then 0 else if big = true ∨ (97 ≤ c ∧ c ≤ 122) ∨ (65 ≤ c ∧ c ≤ 90) ∨ (48 ≤ c ∧ c ≤ 57) ∨ c = 95 ∨ 128 ≤ c then 1 else 2

theorem kindS_range (c : Int) (big : Bool) : 0 ≤ kindS c big ∧ kindS c big ≤ 2 := by unfold kindS; (repeat' split) <;> omega

/-- the kind at a place; -1 outside of the line -/
def kAt (l : List Int) (big : Bool) (k : Int) : Int := if k < 0 ∨ l.length ≤ k then -1 else kindS (ix l k.toNat) big

theorem kAt_out {l : List Int} {big : Bool} {k : Int} (h : k < 0 ∨ l.length ≤ k) : kAt l big k = -1 := if_pos h
theorem kAt_in {l : List Int} {big : Bool} {k : Int} (h0 : 0 ≤ k) (h : k < l.length) : kAt l big k = kindS (ix l k.toNat) big := if_neg (by omega)
theorem kAt_nn {l : List Int} {big : Bool} {k : Int} (h0 : 0 ≤ k) (h : k < l.length) : 0 ≤ kAt l big k := by rw [kAt_in h0 h]; exact (kindS_range _ _).1
theorem kAt_neg {l : List Int} {big : Bool} {k : Int} (h : kAt l big k < 0) : k < 0 ∨ l.length ≤ k := by
  by_cases h' : k < 0 ∨ l.length ≤ k
  · exact h'
  · have := kAt_nn (l := l) (big := big) (k := k) (by omega) (by omega); omega

def OverUp (l : List Int) (big : Bool) (k kind r : Int) : Prop := k ≤ r ∧ (∀ j, k ≤ j → j < r → kAt l big j = kind) ∧ kAt l big r ≠ kind
def OverDown (l : List Int) (big : Bool) (k kind r : Int) : Prop := r ≤ k ∧ (∀ j, r < j → j ≤ k → kAt l big j = kind) ∧ kAt l big r ≠ kind

def Begins (l : List Int) (big : Bool) (i : Int) : Prop := kAt l big i ≠ 0 ∧ (i = 0 ∨ kAt l big (i - 1) ≠ kAt l big i)
def Ends (l : List Int) (big : Bool) (i : Int) : Prop := kAt l big i ≠ 0 ∧ kAt l big (i + 1) ≠ kAt l big i

def WordNext (l : List Int) (big : Bool) (k r : Int) : Prop :=
  ∃ k1, (0 < kAt l big k ∧ OverUp l big k (kAt l big k) k1 ∨ ¬ 0 < kAt l big k ∧ k1 = k) ∧ OverUp l big k1 0 r
def WordBack (l : List Int) (big : Bool) (k r : Int) : Prop :=
  ∃ k1, OverDown l big (k - 1) 0 k1 ∧ (k1 < 0 ∧ r = 0 ∨ 0 ≤ k1 ∧ OverDown l big k1 (kAt l big k1) (r - 1))
def WordEnd (l : List Int) (big : Bool) (k r : Int) : Prop :=
  ∃ k1, OverUp l big (k + 1) 0 k1 ∧ (l.length ≤ k1 ∧ r = max 0 ((l.length : Int) - 1) ∨ k1 < l.length ∧ OverUp l big k1 (kAt l big k1) (r + 1))

def RefNext (l : List Int) (big : Bool) (k r : Int) : Prop :=
  (k < r ∧ r < l.length ∧ Begins l big r ∨ r = l.length) ∧ ∀ j, k < j → j < r → j < l.length → ¬ Begins l big j
def RefBack (l : List Int) (big : Bool) (k r : Int) : Prop :=
  (0 < r ∧ r < k ∧ Begins l big r ∨ r = 0) ∧ ∀ j, r < j → j < k → 0 < j → ¬ Begins l big j
def RefEnd (l : List Int) (big : Bool) (k r : Int) : Prop :=
  (k < r ∧ r < l.length ∧ Ends l big r ∧ ∀ j, k < j → j < r → ¬ Ends l big j) ∨ (r = max 0 ((l.length : Int) - 1) ∧ ∀ j, k < j → j < l.length → ¬ Ends l big j)

theorem next_same {l : List Int} {big : Bool} {k r r' : Int} (h0 : 0 ≤ k) (hk : k ≤ l.length) (h : WordNext l big k r) (h' : RefNext l big k r') : r = r' := by
  obtain ⟨k1, h1, hu, hz, hne⟩ := h
  have hr : r ≤ l.length := by
    rcases Int.lt_or_le l.length r with hlt | hle
    · by_cases hk1 : k1 ≤ l.length
      · have := hz l.length hk1 hlt
        rw [kAt_out (.inr (Int.le_refl _))] at this; omega
      · rcases h1 with ⟨hp, hu1, hs, hn1⟩ | ⟨_, rfl⟩
        · have := hs l.length hk (by omega)
          rw [kAt_out (.inr (Int.le_refl _))] at this; omega
        · omega
    · exact hle
  have hk1 : k ≤ k1 := by rcases h1 with ⟨_, hu1, _⟩ | ⟨_, rfl⟩ <;> omega
  have hno : ∀ j, k < j → j < r → ¬ Begins l big j := by
    intro j hj hj2 hb
    by_cases hjk : k1 ≤ j
    · exact hb.1 (hz j hjk hj2)
    · rcases h1 with ⟨hp, hu1, hs, hn1⟩ | ⟨_, rfl⟩
      · rcases hb.2 with h | h
        · omega
        · exact h (by rw [hs (j - 1) (by omega) (by omega), hs j (by omega) (by omega)])
      · omega
  have hyes : r < l.length → k < r ∧ Begins l big r := by
    intro hlt
    have hkr : k < r := by
      rcases h1 with ⟨hp, hu1, hs, hn1⟩ | ⟨hp, rfl⟩
      · rcases Int.lt_or_le k k1 with h | h
        · omega
        · have : k1 = k := by omega
          subst this; exact absurd rfl hn1
      · rcases Int.lt_or_le k1 r with h | h
        · exact h
        · have : k1 = r := by omega
          subst this
          have := kAt_nn (l := l) (big := big) h0 hlt
          omega
    refine ⟨hkr, hne, .inr ?_⟩
    rcases Int.lt_or_le k1 r with h | h
    · rw [hz (r - 1) (by omega) (by omega)]; exact fun e => hne e.symm
    · have hk1r : k1 = r := by omega
      subst hk1r
      rcases h1 with ⟨hp, hu1, hs, hn1⟩ | ⟨hp, rfl⟩
      · rw [hs (k1 - 1) (by omega) (by omega)]; exact fun e => hn1 e.symm
      · omega
  obtain ⟨h1', h2'⟩ := h'
  rcases Int.lt_trichotomy r r' with hlt | rfl | hgt
  · exfalso
    have hrl : r < l.length := by rcases h1' with ⟨_, h, _⟩ | h <;> omega
    exact h2' r (hyes hrl).1 hlt hrl (hyes hrl).2
  · rfl
  · exfalso
    rcases h1' with ⟨ha, hb, hc⟩ | h
    · exact hno r' ha hgt hc
    · omega

theorem back_same {l : List Int} {big : Bool} {k r r' : Int} (h0 : 0 ≤ k) (hk : k ≤ l.length) (h : WordBack l big k r) (h' : RefBack l big k r') : r = r' := by
  obtain ⟨k1, ⟨hu, hz, hne⟩, h1⟩ := h
  obtain ⟨h1', h2'⟩ := h'
  have hk1 : -1 ≤ k1 := by
    rcases Int.lt_or_le k1 (-1) with h | h
    · have := hz (-1) h (by omega)
      rw [kAt_out (.inl (by omega))] at this; omega
    · exact h
  rcases h1 with ⟨hk1n, rfl⟩ | ⟨hk1p, hu2, hz2, hne2⟩
  · have : k1 = -1 := by omega
    subst this
    rcases h1' with ⟨ha, hb, hc, hd⟩ | h
    · exact absurd (hz r' (by omega) (by omega)) hc
    · exact h.symm
  · have hr : 0 ≤ r := by
      rcases Int.lt_or_le r 0 with h | h
      · have := hz2 (-1) (by omega) (by omega)
        rw [kAt_out (.inl (by omega))] at this
        have := kAt_nn (l := l) (big := big) hk1p (by omega)
        omega
      · exact h
    have hrk : r ≤ k1 := by
      rcases Int.lt_or_le k1 r with h | h
      · have : r - 1 = k1 := by omega
        rw [this] at hne2; exact absurd rfl hne2
      · exact h
    have hkr : kAt l big r = kAt l big k1 := hz2 r (by omega) hrk
    have hno : ∀ j, r < j → j < k → ¬ Begins l big j := by
      intro j hj hj2 hb
      by_cases hjk : k1 < j
      · exact hb.1 (hz j hjk (by omega))
      · rcases hb.2 with h | h
        · omega
        · exact h (by rw [hz2 (j - 1) (by omega) (by omega), hz2 j (by omega) (by omega)])
    have hyes : 0 < r → Begins l big r := fun hp => ⟨by rw [hkr]; exact hne, .inr (by rw [hkr]; exact hne2)⟩
    rcases Int.lt_trichotomy r r' with hlt | rfl | hgt
    · exfalso
      rcases h1' with ⟨ha, hb, hc⟩ | h
      · exact hno r' hlt hb hc
      · omega
    · rfl
    · exfalso
      exact h2' r hgt (by omega) (by rcases h1' with ⟨ha, _⟩ | h <;> omega) (hyes (by rcases h1' with ⟨ha, _⟩ | h <;> omega))

theorem end_same {l : List Int} {big : Bool} {k r r' : Int} (h0 : 0 ≤ k) (hk : k ≤ l.length) (h : WordEnd l big k r) (h' : RefEnd l big k r') : r = r' := by
  obtain ⟨k1, ⟨hu, hz, hne⟩, h1⟩ := h
  rcases h1 with ⟨hge, rfl⟩ | ⟨hlt, hu2, hz2, hne2⟩
  · rcases h' with ⟨ha, hb, hc, _⟩ | ⟨rfl, _⟩
    · exact absurd (hz r' (by omega) (by omega)) hc.1
    · rfl
  · have hk1p : 0 ≤ k1 := by omega
    have hrk : k1 ≤ r := by
      rcases Int.lt_or_le r k1 with h | h
      · have : r + 1 = k1 := by omega
        rw [this] at hne2; exact absurd rfl hne2
      · exact h
    have hrl : r < l.length := by
      rcases Int.lt_or_le r l.length with h | h
      · exact h
      · have := hz2 l.length (by omega) (by omega)
        rw [kAt_out (.inr (Int.le_refl _))] at this
        have := kAt_nn (l := l) (big := big) hk1p hlt
        omega
    have hkr : kAt l big r = kAt l big k1 := hz2 r hrk (by omega)
    have hyes : Ends l big r := ⟨by rw [hkr]; exact hne, by rw [hkr]; exact hne2⟩
    have hno : ∀ j, k < j → j < r → ¬ Ends l big j := by
      intro j hj hj2 hb
      by_cases hjk : j < k1
      · exact hb.1 (hz j (by omega) hjk)
      · exact hb.2 (by rw [hz2 (j + 1) (by omega) (by omega), hz2 j (by omega) (by omega)])
    rcases h' with ⟨ha, hb, hc, hd⟩ | ⟨rfl, hd⟩
    · rcases Int.lt_trichotomy r r' with hl | rfl | hg
      · exact absurd hyes (hd r (by omega) hl)
      · rfl
      · exact absurd hc (hno r' ha hg)
    · exact absurd hyes (hd r (by omega) hrl)

end Go.Proofs.Ytbgbcmfgncneiaa
