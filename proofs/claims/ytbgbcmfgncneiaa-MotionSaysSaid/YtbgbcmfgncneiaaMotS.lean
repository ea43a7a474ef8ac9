/- Plain: where a motion leads to. No program stands here. -/
import Derived.Test.YtbgbcmfgncneiaaWord4
import Derived.Test.YtbgbcmfgncneiaaDyckI
namespace Go.Proofs.Ytbgbcmfgncneiaa
open Go.RowKit
set_option linter.unusedVariables false
set_option linter.unusedSimpArgs false

/-- the first place from i on, of m places, that is right -/
def seekUp (p : Nat → Bool) (i : Nat) : Nat → Option Nat
  | 0 => none
  | m + 1 => if p i then some i else seekUp p (i + 1) m
/-- the first one downward from i - 1 on -/
def seekDown (p : Nat → Bool) : Nat → Option Nat
  | 0 => none
  | i + 1 => if p i then some i else seekDown p i
theorem seekUp_some {p : Nat → Bool} {m : Nat} : ∀ {i r : Nat}, seekUp p i m = some r → i ≤ r ∧ r < i + m ∧ p r = true ∧ ∀ j, i ≤ j → j < r → p j = false := by
  induction m with
  | zero => intro i r h; simp [seekUp] at h
  | succ m ih =>
    intro i r h
    unfold seekUp at h
    cases hp : p i
    · rw [if_neg (by simp [hp])] at h
      obtain ⟨h1, h2, h3, h4⟩ := ih h
      refine ⟨by omega, by omega, h3, fun j hj hjr => ?_⟩
      rcases Nat.eq_or_lt_of_le hj with rfl | hlt
      · exact hp
      · exact h4 j hlt hjr
    · rw [if_pos hp] at h
      simp at h; subst h
      exact ⟨Nat.le_refl _, by omega, hp, fun j hj hjr => by omega⟩
theorem seekUp_none {p : Nat → Bool} {m : Nat} : ∀ {i : Nat}, seekUp p i m = none → ∀ j, i ≤ j → j < i + m → p j = false := by
  induction m with
  | zero => intro i _ j h1 h2; omega
  | succ m ih =>
    intro i h j h1 h2
    unfold seekUp at h
    cases hp : p i
    · rw [if_neg (by simp [hp])] at h
      rcases Nat.eq_or_lt_of_le h1 with rfl | hlt
      · exact hp
      · exact ih h j hlt (by omega)
    · rw [if_pos hp] at h; simp at h
theorem seekDown_some {p : Nat → Bool} {i : Nat} : ∀ {r : Nat}, seekDown p i = some r → r < i ∧ p r = true ∧ ∀ j, r < j → j < i → p j = false := by
  induction i with
  | zero => intro r h; simp [seekDown] at h
  | succ i ih =>
    intro r h
    unfold seekDown at h
    cases hp : p i
    · rw [if_neg (by simp [hp])] at h
      obtain ⟨h1, h2, h3⟩ := ih h
      refine ⟨by omega, h2, fun j hj hji => ?_⟩
      rcases Nat.lt_succ_iff_lt_or_eq.1 hji with h | rfl
      · exact h3 j hj h
      · exact hp
    · rw [if_pos hp] at h
      simp at h; subst h
      exact ⟨by omega, hp, fun j hj hji => by omega⟩
theorem seekDown_none {p : Nat → Bool} {i : Nat} : seekDown p i = none → ∀ j, j < i → p j = false := by
  induction i with
  | zero => intro _ j h; omega
  | succ i ih =>
    intro h j hj
    unfold seekDown at h
    cases hp : p i
    · rw [if_neg (by simp [hp])] at h
      rcases Nat.lt_succ_iff_lt_or_eq.1 hj with h' | rfl
      · exact ih h j h'
      · exact hp
    · rw [if_pos hp] at h; simp at h

/-- the next word's begin; the word's begin behind; the word's end on -/
def nextF (l : List Int) (big : Bool) (k : Int) : Int :=
  match seekUp (fun i => beginsB l big i) (k.toNat + 1) (l.length - (k.toNat + 1)) with
  | some r => (r : Int)
  | none => (l.length : Int)
def backF (l : List Int) (big : Bool) (k : Int) : Int :=
  match seekDown (fun i => decide (0 < i) && beginsB l big i) k.toNat with
  | some r => (r : Int)
  | none => 0
def endF (l : List Int) (big : Bool) (k : Int) : Int :=
  match seekUp (fun i => endsB l big i) (k.toNat + 1) (l.length - (k.toNat + 1)) with
  | some r => (r : Int)
  | none => max 0 ((l.length : Int) - 1)

theorem nextF_ref (l : List Int) (big : Bool) (k : Int) (h0 : 0 ≤ k) (hk : k ≤ l.length) : RefNext l big k (nextF l big k) := by
  unfold nextF
  split
  · rename_i r h
    obtain ⟨h1, h2, h3, h4⟩ := seekUp_some h
    refine ⟨.inl ⟨by omega, by omega, (beginsB_iff _ _ _).1 h3⟩, fun j hj hjr _ hb => ?_⟩
    have := h4 j.toNat (by omega) (by omega)
    rw [show ((j.toNat : Nat) : Int) = j from by omega, (beginsB_iff _ _ _).2 hb] at this
    simp at this
  · rename_i h
    refine ⟨.inr rfl, fun j hj _ hjl hb => ?_⟩
    have := seekUp_none h j.toNat (by omega) (by omega)
    rw [show ((j.toNat : Nat) : Int) = j from by omega, (beginsB_iff _ _ _).2 hb] at this
    simp at this
theorem backF_ref (l : List Int) (big : Bool) (k : Int) (h0 : 0 ≤ k) : RefBack l big k (backF l big k) := by
  unfold backF
  split
  · rename_i r h
    obtain ⟨h1, h2, h3⟩ := seekDown_some h
    simp only [Bool.and_eq_true, decide_eq_true_eq] at h2
    refine ⟨.inl ⟨by omega, by omega, (beginsB_iff _ _ _).1 h2.2⟩, fun j hj hjk hj0 hb => ?_⟩
    have := h3 j.toNat (by omega) (by omega)
    rw [show ((j.toNat : Nat) : Int) = j from by omega, (beginsB_iff _ _ _).2 hb] at this
    simp at this; omega
  · rename_i h
    refine ⟨.inr rfl, fun j hj hjk hj0 hb => ?_⟩
    have := seekDown_none h j.toNat (by omega)
    rw [show ((j.toNat : Nat) : Int) = j from by omega, (beginsB_iff _ _ _).2 hb] at this
    simp at this; omega
theorem endF_ref (l : List Int) (big : Bool) (k : Int) (h0 : 0 ≤ k) : RefEnd l big k (endF l big k) := by
  unfold endF
  split
  · rename_i r h
    obtain ⟨h1, h2, h3, h4⟩ := seekUp_some h
    refine .inl ⟨by omega, by omega, (endsB_iff _ _ _).1 h3, fun j hj hjr hb => ?_⟩
    have := h4 j.toNat (by omega) (by omega)
    rw [show ((j.toNat : Nat) : Int) = j from by omega, (endsB_iff _ _ _).2 hb] at this
    simp at this
  · rename_i h
    refine .inr ⟨rfl, fun j hj hjl hb => ?_⟩
    have := seekUp_none h j.toNat (by omega) (by omega)
    rw [show ((j.toNat : Nat) : Int) = j from by omega, (endsB_iff _ _ _).2 hb] at this
    simp at this
theorem nextF_bd (l : List Int) (big : Bool) (k : Int) (h0 : 0 ≤ k) (hk : k ≤ l.length) : 0 ≤ nextF l big k ∧ nextF l big k ≤ l.length := by
  rcases (nextF_ref l big k h0 hk).1 with h | h <;> omega
theorem backF_bd (l : List Int) (big : Bool) (k : Int) (h0 : 0 ≤ k) (hk : k ≤ l.length) : 0 ≤ backF l big k ∧ backF l big k ≤ l.length := by
  rcases (backF_ref l big k h0).1 with h | h <;> omega
theorem endF_bd (l : List Int) (big : Bool) (k : Int) (h0 : 0 ≤ k) (hk : k ≤ l.length) : 0 ≤ endF l big k ∧ endF l big k ≤ l.length := by
  rcases endF_ref l big k h0 with h | h <;> omega
theorem refNext_one {l : List Int} {big : Bool} {k r r' : Int} (h : RefNext l big k r) (h' : RefNext l big k r') (hk : k ≤ l.length) : r = r' := by
  obtain ⟨h1, h2⟩ := h
  obtain ⟨h1', h2'⟩ := h'
  rcases Int.lt_trichotomy r r' with h | h | h
  · rcases h1 with ⟨a, b, c⟩ | a
    · exact absurd c (h2' r a h b)
    · rcases h1' with ⟨a', b', c'⟩ | a' <;> omega
  · exact h
  · rcases h1' with ⟨a, b, c⟩ | a
    · exact absurd c (h2 r' a h b)
    · rcases h1 with ⟨a', b', c'⟩ | a' <;> omega
theorem refBack_one {l : List Int} {big : Bool} {k r r' : Int} (h : RefBack l big k r) (h' : RefBack l big k r') (hk : 0 ≤ k) : r = r' := by
  obtain ⟨h1, h2⟩ := h
  obtain ⟨h1', h2'⟩ := h'
  rcases Int.lt_trichotomy r r' with h | h | h
  · rcases h1' with ⟨a, b, c⟩ | a
    · exact absurd c (h2 r' h b a)
    · rcases h1 with ⟨a', b', c'⟩ | a' <;> omega
  · exact h
  · rcases h1 with ⟨a, b, c⟩ | a
    · exact absurd c (h2' r h b a)
    · rcases h1' with ⟨a', b', c'⟩ | a' <;> omega
theorem refEnd_one {l : List Int} {big : Bool} {k r r' : Int} (h : RefEnd l big k r) (h' : RefEnd l big k r') : r = r' := by
  rcases h with ⟨a, b, c, d⟩ | ⟨a, b⟩ <;> rcases h' with ⟨a', b', c', d'⟩ | ⟨a', b'⟩
  · rcases Int.lt_trichotomy r r' with h | h | h
    · exact absurd c (d' r a h)
    · exact h
    · exact absurd c' (d r' a' h)
  · exact absurd c (b' r a b)
  · exact absurd c' (b r' a' b')
  · rw [a, a']

/-- a step, so often -/
def iterF (f : Int → Int) : Nat → Int → Int
  | 0, k => k
  | n + 1, k => f (iterF f n k)
theorem iterF_bd {f : Int → Int} {lo hi : Int} (hf : ∀ k, lo ≤ k → k ≤ hi → lo ≤ f k ∧ f k ≤ hi) {k : Int} (h0 : lo ≤ k) (h1 : k ≤ hi) : ∀ n, lo ≤ iterF f n k ∧ iterF f n k ≤ hi := by
  intro n
  induction n with
  | zero => exact ⟨h0, h1⟩
  | succ n ih => exact hf _ ih.1 ih.2

/-- the first character that is not blank -/
def firstF (l : List Int) : Int :=
  match seekUp (fun i => decide (kindS (ix l i) true ≠ 0)) 0 l.length with
  | some r => (r : Int)
  | none => max 0 ((l.length : Int) - 1)
/-- places of a character from i on, upward, of m places; downward from i - 1 on -/
def plU (l : List Int) (c : Int) (i : Nat) : Nat → List Int
  | 0 => []
  | m + 1 => if ix l i = c then (i : Int) :: plU l c (i + 1) m else plU l c (i + 1) m
def plD (l : List Int) (c : Int) : Nat → List Int
  | 0 => []
  | i + 1 => if ix l i = c then (i : Int) :: plD l c i else plD l c i
theorem plU_hit {l : List Int} {c : Int} {i m : Nat} (h : ix l i = c) : plU l c i (m + 1) = (i : Int) :: plU l c (i + 1) m := if_pos h
theorem plU_miss {l : List Int} {c : Int} {i m : Nat} (h : ix l i ≠ c) : plU l c i (m + 1) = plU l c (i + 1) m := if_neg h
theorem plD_hit {l : List Int} {c : Int} {i : Nat} (h : ix l i = c) : plD l c (i + 1) = (i : Int) :: plD l c i := if_pos h
theorem plD_miss {l : List Int} {c : Int} {i : Nat} (h : ix l i ≠ c) : plD l c (i + 1) = plD l c i := if_neg h
theorem plU_len (l : List Int) (c : Int) (m : Nat) : ∀ i, (plU l c i m).length ≤ m := by
  induction m with
  | zero => intro i; simp [plU]
  | succ m ih =>
    intro i
    have := ih (i + 1)
    unfold plU
    split
    · simp; omega
    · omega
theorem plD_len (l : List Int) (c : Int) (i : Nat) : (plD l c i).length ≤ i := by
  induction i with
  | zero => simp [plD]
  | succ i ih =>
    unfold plD
    split
    · simp; omega
    · omega
theorem plU_in (l : List Int) (c : Int) (m : Nat) : ∀ i, ∀ x ∈ plU l c i m, (i : Int) ≤ x ∧ x < i + m := by
  induction m with
  | zero => intro i x hx; simp [plU] at hx
  | succ m ih =>
    intro i x hx
    unfold plU at hx
    split at hx
    · rcases List.mem_cons.1 hx with rfl | hx
      · omega
      · have := ih _ x hx; omega
    · have := ih _ x hx; omega
theorem plD_in (l : List Int) (c : Int) (i : Nat) : ∀ x ∈ plD l c i, 0 ≤ x ∧ x < i := by
  induction i with
  | zero => intro x hx; simp [plD] at hx
  | succ i ih =>
    intro x hx
    unfold plD at hx
    split at hx
    · rcases List.mem_cons.1 hx with rfl | hx
      · omega
      · have := ih x hx; omega
    · have := ih x hx; omega
def placesR (l : List Int) (k : Nat) (c : Int) : List Int := plU l c (k + 1) (l.length - (k + 1))
def placesL (l : List Int) (k : Nat) (c : Int) : List Int := plD l c k
/-- the partner of the first bracket from k on; -1: there is none -/
def partF (l : List Int) (k : Nat) : Int :=
  match seekUp (fun i => decide (openS (ix l i) ≠ 0)) k (l.length - k) with
  | some r => ix (pRun l l.length l.length).out r
  | none => -1

/-- where a right motion leads to, and is the character there meant too; none: it fails -/
def moS (l : List Int) (k : Nat) (key n arg : Int) (op : Bool) : Option (Int × Bool) :=
  if key = 104 then (if k = 0 then none else some (max 0 (k - n), false))
  else if key = 108 then (if (if op then (l.length : Int) else l.length - 1) ≤ k then none else some (min (if op then (l.length : Int) else l.length - 1) (k + n), false))
  else if key = 48 then some (0, false)
  else if key = 94 then some (firstF l, false)
  else if key = 98 ∨ key = 66 then (if k = 0 then none else some (iterF (backF l (key == 66)) n.toNat k, false))
  else if key = 102 ∨ key = 116 then (match (placesR l k arg)[n.toNat - 1]? with | some at' => some (if key = 116 then at' - 1 else at', true) | none => none)
  else if key = 70 ∨ key = 84 then (match (placesL l k arg)[n.toNat - 1]? with | some at' => some (if key = 84 then at' + 1 else at', false) | none => none)
  else if l.length = 0 then none
  else if key = 36 then some (l.length - 1, true)
  else if key = 124 then some (min n l.length - 1, false)
  else if key = 119 ∨ key = 87 then
    (if op then some (iterF (nextF l (key == 87)) n.toNat k, false)
     else if min (iterF (nextF l (key == 87)) n.toNat k) (l.length - 1) = k then none else some (min (iterF (nextF l (key == 87)) n.toNat k) (l.length - 1), false))
  else if key = 101 ∨ key = 69 then
    (if op = false ∧ iterF (endF l (key == 69)) n.toNat k = k then none else some (iterF (endF l (key == 69)) n.toNat k, true))
  else if partF l k < 0 then none else some (partF l k, true)

def knownS (key : Int) : Bool := [104, 108, 48, 94, 36, 124, 119, 87, 98, 66, 101, 69, 37, 102, 70, 116, 84].contains key
/-- Check's answer -/
def moveE (l : List Int) (k key count : Int) : Int :=
  if 4096 < l.length then 2 else if k < 0 ∨ (0 < k ∧ (l.length : Int) ≤ k) ∨ count < 0 ∨ 999 < count then 1 else if knownS key then 0 else 9
def cntN (count : Int) : Int := max 1 count

end Go.Proofs.Ytbgbcmfgncneiaa
