/- Edits as lists: what their check, doing and undoing answer: plain. No walk stands here. -/
import Derived.Test.YtbgbcmfgncneiaaBase
namespace Go.Proofs.Ytbgbcmfgncneiaa
open Go.RowKit
set_option linter.unusedVariables false
set_option linter.unusedSimpArgs false

/-- a splice: from, to, text -/
structure Sp where
  f : Int
  t : Int
  x : List Int

def spBad (n last : Int) (s : Sp) : Bool := decide (s.f ≤ last) || decide (s.t < s.f) || decide (n < s.t) || (decide (s.f = s.t) && decide (s.x.length = 0))
def spBig (size : Int) (s : Sp) : Bool := decide (4096 < s.x.length) || decide (8192 < size - (s.t - s.f) + (s.x.length : Int))
/-- the check behind some splices: the last end, the size -/
def ckL (n : Int) : Int → Int → List Sp → Int
  | last, size, [] => if 4096 < size then 2 else 0
  | last, size, s :: r => if spBad n last s = true then 4 else if spBig size s = true then 2 else ckL n s.t (size - (s.t - s.f) + (s.x.length : Int)) r
def ckE (n : Int) (es : List Sp) : Int := if n < 0 ∨ 4096 < n then 1 else ckL n (-1) n es

theorem ckL_nil {n last size : Int} : ckL n last size [] = if 4096 < size then 2 else 0 := rfl
theorem ckL_bad {n last size : Int} {s : Sp} {r : List Sp} (h : spBad n last s = true) : ckL n last size (s :: r) = 4 := by simp [ckL, h]
theorem ckL_big {n last size : Int} {s : Sp} {r : List Sp} (h : spBad n last s = false) (h2 : spBig size s = true) : ckL n last size (s :: r) = 2 := by simp [ckL, h, h2]
theorem ckL_step {n last size : Int} {s : Sp} {r : List Sp} (h : spBad n last s = false) (h2 : spBig size s = false) : ckL n last size (s :: r) = ckL n s.t (size - (s.t - s.f) + (s.x.length : Int)) r := by simp [ckL, h, h2]
theorem spBad_no {n last : Int} {s : Sp} (h : spBad n last s = false) : last < s.f ∧ s.f ≤ s.t ∧ s.t ≤ n ∧ (s.f < s.t ∨ 0 < s.x.length) := by
  simp only [spBad, Bool.or_eq_false_iff, Bool.and_eq_false_iff, decide_eq_false_iff_not] at h; omega
theorem spBig_no {size : Int} {s : Sp} (h : spBig size s = false) : s.x.length ≤ 4096 ∧ size - (s.t - s.f) + (s.x.length : Int) ≤ 8192 := by
  simp [spBig] at h; omega

/-- a right edit from a place on -/
def Good (n : Int) : Int → List Sp → Prop
  | last, [] => True
  | last, s :: r => last < s.f ∧ s.f ≤ s.t ∧ s.t ≤ n ∧ (s.f < s.t ∨ 0 < s.x.length) ∧ s.x.length ≤ 4096 ∧ Good n s.t r

theorem ckL_vals (n : Int) (es : List Sp) : ∀ last size, ckL n last size es = 0 ∨ ckL n last size es = 2 ∨ ckL n last size es = 4 := by
  induction es with
  | nil => intro last size; rw [ckL_nil]; split <;> simp
  | cons s r ih =>
    intro last size
    unfold ckL
    split
    · simp
    · split
      · simp
      · exact ih _ _
/-- what the splices change the size by -/
def grow : List Sp → Int
  | [] => 0
  | s :: r => (s.x.length : Int) - (s.t - s.f) + grow r
theorem grow_append (a b : List Sp) : grow (a ++ b) = grow a + grow b := by
  induction a with
  | nil => simp [grow]
  | cons s r ih => simp [grow, ih]; omega
theorem ckL_good {n : Int} {es : List Sp} : ∀ {last size : Int}, ckL n last size es = 0 → Good n last es ∧ size + grow es ≤ 4096 := by
  induction es with
  | nil =>
    intro last size h
    rw [ckL_nil] at h
    split at h
    · simp at h
    · exact ⟨trivial, by simp [grow]; omega⟩
  | cons s r ih =>
    intro last size h
    cases h1 : spBad n last s with
    | true => rw [ckL_bad h1] at h; simp at h
    | false =>
      cases h2 : spBig size s with
      | true => rw [ckL_big h1 h2] at h; simp at h
      | false =>
        rw [ckL_step h1 h2] at h
        obtain ⟨g1, g2⟩ := ih h
        obtain ⟨b1, b2, b3, b4⟩ := spBad_no h1
        exact ⟨⟨b1, b2, b3, b4, (spBig_no h2).1, g1⟩, by simp [grow]; omega⟩
theorem ckE_good {n : Int} {es : List Sp} (h : ckE n es = 0) : 0 ≤ n ∧ n ≤ 4096 ∧ Good n (-1) es ∧ n + grow es ≤ 4096 := by
  unfold ckE at h
  split at h
  · simp at h
  · obtain ⟨a, b⟩ := ckL_good h
    exact ⟨by omega, by omega, a, b⟩
theorem Good.le {n : Int} {es : List Sp} : ∀ {last : Int}, Good n last es → 0 < es.length → last < n ∧ 0 ≤ n - last := by
  intro last h h0
  cases es with
  | nil => simp at h0
  | cons s r => obtain ⟨a, b, c, d, e, g⟩ := h; omega
/-- the splice at a place of a right edit -/
theorem Good.at {n : Int} {es : List Sp} : ∀ {last : Int}, Good n last es → ∀ k (h : k < es.length), last < es[k].f ∧ es[k].f ≤ es[k].t ∧ es[k].t ≤ n ∧ es[k].x.length ≤ 4096 := by
  induction es with
  | nil => intro last h k hk; simp at hk
  | cons s r ih =>
    intro last h k hk
    obtain ⟨a, b, c, d, e, g⟩ := h
    match k with
    | 0 => exact ⟨a, b, c, e⟩
    | k + 1 =>
      have := ih g k (by simpa using hk)
      simp only [List.getElem_cons_succ]
      omega
theorem Good.next {n : Int} {es : List Sp} : ∀ {last : Int}, Good n last es → ∀ k (h : k + 1 < es.length), es[k].t < es[k + 1].f := by
  induction es with
  | nil => intro last h k hk; simp at hk
  | cons s r ih =>
    intro last h k hk
    obtain ⟨a, b, c, d, e, g⟩ := h
    match k with
    | 0 =>
      cases r with
      | nil => simp at hk
      | cons s' r' => exact g.1
    | k + 1 => exact ih g k (by simpa using hk)
theorem Good.drop {n : Int} {es : List Sp} : ∀ {last : Int}, Good n last es → ∀ k (h : k < es.length), Good n es[k].t (es.drop (k + 1)) := by
  induction es with
  | nil => intro last h k hk; simp at hk
  | cons s r ih =>
    intro last h k hk
    obtain ⟨a, b, c, d, e, g⟩ := h
    match k with
    | 0 => exact g
    | k + 1 => exact ih g k (by simpa using hk)
theorem Good.lower {n : Int} {es : List Sp} {last last' : Int} (h : Good n last es) (hl : last' ≤ last) : Good n last' es := by
  cases es with
  | nil => trivial
  | cons s r => obtain ⟨a, b⟩ := h; exact ⟨by omega, b⟩
theorem Good.take {n : Int} {es : List Sp} : ∀ {last : Int}, Good n last es → ∀ k (h : k < es.length), Good es[k].f last (es.take k) := by
  induction es with
  | nil => intro last h k hk; simp at hk
  | cons s r ih =>
    intro last h k hk
    match k with
    | 0 => trivial
    | k + 1 =>
      obtain ⟨a, b, c, d, e, g⟩ := h
      have h1 := ih g k (by simpa using hk)
      have h2 := Good.at g k (by simpa using hk)
      simp only [List.getElem_cons_succ, List.take_succ_cons]
      exact ⟨a, b, by omega, d, e, h1⟩

/-- the line behind an edit, from a place on -/
def apP (l : List Int) : Nat → List Sp → List Int
  | at', [] => l.drop at'
  | at', s :: r => (l.take s.f.toNat).drop at' ++ s.x ++ apP l s.t.toNat r

theorem apP_cut {l : List Int} {r : List Sp} {m : Nat} (h : ∀ s ∈ r.head?, m ≤ s.f.toNat) : apP l 0 r = l.take m ++ apP l m r := by
  cases r with
  | nil => simp [apP]
  | cons s r' =>
    have hm := h s (by simp)
    simp only [apP, List.drop_zero]
    rw [List.append_assoc, List.append_assoc, ← List.append_assoc (l.take m)]
    congr 1
    have : l.take m = (l.take s.f.toNat).take m := by rw [List.take_take, Nat.min_eq_left hm]
    rw [this, List.take_append_drop]

/-- a round of the reference: from the last splice on -/
theorem apP_round {l : List Int} {s : Sp} {r : List Sp} (hf : s.f ≤ s.t) (h0 : 0 ≤ s.f) (hl : s.t.toNat ≤ l.length) (h : ∀ s' ∈ r.head?, s.t ≤ s'.f) :
    (apP l 0 r).take s.f.toNat ++ s.x ++ (apP l 0 r).drop s.t.toNat = apP l 0 (s :: r) := by
  have e1 : apP l 0 r = l.take s.f.toNat ++ apP l s.f.toNat r := apP_cut fun s' hs => by have := h s' hs; omega
  have e2 : apP l 0 r = l.take s.t.toNat ++ apP l s.t.toNat r := apP_cut fun s' hs => by have := h s' hs; omega
  have l1 : (l.take s.f.toNat).length = s.f.toNat := by simp; omega
  have l2 : (l.take s.t.toNat).length = s.t.toNat := by simp; omega
  have h1 : (apP l 0 r).take s.f.toNat = l.take s.f.toNat := by rw [e1]; simp [List.take_append, l1]
  have h2 : (apP l 0 r).drop s.t.toNat = apP l s.t.toNat r := by rw [e2, List.drop_append, l2]; simp
  rw [h1, h2]
  simp [apP]

theorem apP_len {l : List Int} {es : List Sp} : ∀ {last : Int} {at' : Nat}, Good (l.length : Int) last es → (at' : Int) ≤ l.length → (∀ s ∈ es.head?, (at' : Int) ≤ s.f) → (0 ≤ last ∨ -1 = last) → ((apP l at' es).length : Int) = l.length - at' + grow es := by
  induction es with
  | nil => intro last at' h h1 h2 h3; simp [apP, grow]; omega
  | cons s r ih =>
    intro last at' h h1 h2 h3
    obtain ⟨a, b, c, d, e, g⟩ := h
    have hh := h2 s (by simp)
    have hr := ih (at' := s.t.toNat) g (by omega) (by
      intro s' hs'
      cases r with
      | nil => simp at hs'
      | cons s'' r' => simp at hs'; subst hs'; have := g.1; omega) (by omega)
    simp only [apP, List.length_append, List.length_drop, List.length_take, grow]
    omega

end Go.Proofs.Ytbgbcmfgncneiaa
