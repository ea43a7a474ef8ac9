/- One edit over another: plain. No walk stands here. -/
import Derived.Test.YtbgbcmfgncneiaaMarkP
namespace Go.Proofs.Ytbgbcmfgncneiaa
open Go.RowKit
set_option linter.unusedVariables false
set_option linter.unusedSimpArgs false

/-- the last one of a list is changed -/
def modLast (f : Sp → Sp) : List Sp → List Sp
  | [] => []
  | [a] => [f a]
  | a :: b :: r => a :: modLast f (b :: r)
theorem modLast_snoc (f : Sp → Sp) (l : List Sp) (a : Sp) : modLast f (l ++ [a]) = l ++ [f a] := by
  induction l with
  | nil => rfl
  | cons x r ih =>
    cases r with
    | nil => rfl
    | cons y r' => simp only [List.cons_append] at ih ⊢; simp only [modLast]; rw [ih]
def withT (t : Int) (s : Sp) : Sp := ⟨s.f, t, s.x⟩
def withX (c : List Int) (s : Sp) : Sp := ⟨s.f, s.t, s.x ++ c⟩
/-- an edit in the making: its splices, the place, is the last one open? -/
structure FS where
  out : List Sp
  pl : Int
  op : Bool
def opn (s : FS) : FS := if s.op = true then s else ⟨s.out ++ [⟨s.pl, s.pl, []⟩], s.pl, true⟩
def keepF (s : FS) : FS := ⟨s.out, s.pl + 1, false⟩
def dropF (s : FS) : FS := ⟨modLast (withT (s.pl + 1)) (opn s).out, s.pl + 1, true⟩
def putF (s : FS) (cs : List Int) : FS := if cs = [] then s else ⟨modLast (withX cs) (opn s).out, s.pl, true⟩
/-- signs: how (0 stays, 1 goes, 2 comes), the character -/
structure Sg where
  h : Int
  c : Int
def stepF (s : FS) (x : Sg) : FS := if x.h = 0 then keepF s else if x.h = 1 then dropF s else putF s [x.c]

/-- an open one ends in a splice -/
def Ok (s : FS) : Prop := s.op = true → ∃ l a, s.out = l ++ [a]
theorem opn_ok (s : FS) (h : Ok s) : ∃ l a, (opn s).out = l ++ [a] ∧ (opn s).pl = s.pl ∧ (opn s).op = true := by
  unfold opn
  cases hs : s.op with
  | true => obtain ⟨l, a, e⟩ := h hs; exact ⟨l, a, by simpa using e, by simp, by simpa using hs⟩
  | false => exact ⟨s.out, ⟨s.pl, s.pl, []⟩, by simp, by simp, by simp⟩
theorem Ok.keep (s : FS) : Ok (keepF s) := by intro h; simp [keepF] at h
theorem Ok.drop {s : FS} (h : Ok s) : Ok (dropF s) := by
  obtain ⟨l, a, e, -, -⟩ := opn_ok s h
  intro _
  exact ⟨l, withT (s.pl + 1) a, by simp only [dropF]; rw [e, modLast_snoc]⟩
theorem Ok.put {s : FS} (h : Ok s) (cs : List Int) : Ok (putF s cs) := by
  unfold putF
  split
  · exact h
  · obtain ⟨l, a, e, -, -⟩ := opn_ok s h
    intro _
    exact ⟨l, withX cs a, by simp only []; rw [e, modLast_snoc]⟩
theorem Ok.step {s : FS} (h : Ok s) (x : Sg) : Ok (stepF s x) := by
  unfold stepF
  split
  · exact Ok.keep s
  · split
    · exact h.drop
    · exact h.put _
theorem putF_nil (s : FS) : putF s [] = s := by simp [putF]
theorem putF_append {s : FS} (h : Ok s) (cs ds : List Int) : putF (putF s cs) ds = putF s (cs ++ ds) := by
  by_cases h1 : cs = []
  · subst h1; rw [putF_nil, List.nil_append]
  · by_cases h2 : ds = []
    · subst h2; rw [putF_nil, List.append_nil]
    · obtain ⟨l, a, e, -, -⟩ := opn_ok s h
      have e1 : putF s cs = ⟨l ++ [withX cs a], s.pl, true⟩ := by rw [putF, if_neg h1, e, modLast_snoc]
      rw [e1, putF, if_neg h2, putF, if_neg (by simp [h1]), e, modLast_snoc]
      simp [opn, modLast_snoc, withX]
/-- many signs that come are one text -/
theorem putF_signs (cs : List Int) : ∀ {s : FS}, Ok s → (cs.map fun c => Sg.mk 2 c).foldl stepF s = putF s cs := by
  induction cs with
  | nil => intro s h; rw [putF_nil]; rfl
  | cons c r ih =>
    intro s h
    simp only [List.map_cons, List.foldl_cons]
    rw [ih (h.step _)]
    have : stepF s ⟨2, c⟩ = putF s [c] := by simp [stepF]
    rw [this, putF_append h]
    rfl
theorem keepF_signs (k : Nat) : ∀ s : FS, (List.replicate k (Sg.mk 0 0)).foldl stepF s = (List.replicate k ()).foldl (fun s _ => keepF s) s := by
  induction k with
  | zero => intro s; rfl
  | succ k ih =>
    intro s
    simp only [List.replicate_succ, List.foldl_cons]
    rw [ih]
    rfl
theorem Ok.fold {s : FS} (h : Ok s) (l : List Sg) : Ok (l.foldl stepF s) := by
  induction l generalizing s with
  | nil => exact h
  | cons x r ih => exact ih (h.step x)

/-- the signs of a place -/
def segP (n : Int) (a b : List Sp) (ahead : Bool) (i : Int) : List Sg :=
  (if ahead = true then (txtP i [] a).map (fun c => Sg.mk 2 c) else []) ++ List.replicate (txtP i [] b).length (Sg.mk 0 0) ++ (if ahead = true then [] else (txtP i [] a).map (fun c => Sg.mk 2 c)) ++
    (if i < n ∧ goesB b i = false then [Sg.mk (if goesB a i = true then 1 else 0) 0] else [])
def signsP (n : Int) (a b : List Sp) (ahead : Bool) : Nat → List Sg
  | 0 => []
  | k + 1 => signsP n a b ahead k ++ segP n a b ahead k
def ovP (n : Nat) (a b : List Sp) (ahead : Bool) : List Sp := ((signsP n a b ahead (n + 1)).foldl stepF ⟨[], 0, false⟩).out

/-! what a reader answers -/
def pastB (i : Int) (s : Sp) : Bool := decide (s.t < i) || (decide (s.t = i) && decide (s.f < i))
def rest (i : Int) : List Sp → List Sp
  | [] => []
  | s :: r => if pastB i s = true then rest i r else s :: r
theorem txtP_late {n : Int} {es : List Sp} : ∀ {last : Int} {x : List Int}, Good n last es → ∀ i, i ≤ last → txtP i x es = x := by
  induction es with
  | nil => intro last x h i hi; rfl
  | cons s r ih =>
    intro last x h i hi
    obtain ⟨a, b, c, d, e, g⟩ := h
    simp only [txtP]
    rw [if_neg (by omega)]
    exact ih g i (by omega)
/-- what stands there, read off the first one that is not past -/
def readT (i : Int) : List Sp → List Int
  | [] => []
  | s :: _ => if s.f = i then s.x else []
def readB (i : Int) : List Sp → Bool
  | [] => false
  | s :: _ => decide (s.f ≤ i) && decide (i < s.t)
theorem read_rest {n : Int} {es : List Sp} : ∀ {last : Int}, Good n last es → ∀ i, readT i (rest i es) = txtP i [] es ∧ readB i (rest i es) = goesB es i := by
  induction es with
  | nil => intro last h i; exact ⟨rfl, rfl⟩
  | cons s r ih =>
    intro last h i
    obtain ⟨a, b, c, d, e, g⟩ := h
    simp only [rest, txtP]
    rw [goesB_cons]
    cases hp : pastB i s with
    | true =>
      rw [if_pos rfl]
      have hp' : s.t < i ∨ (s.t = i ∧ s.f < i) := by simpa [pastB] using hp
      rw [if_neg (by omega)]
      have : (decide (s.f ≤ i) && decide (i < s.t)) = false := by rw [Bool.and_eq_false_iff]; simp; omega
      rw [this]
      exact ih g i
    | false =>
      rw [if_neg (by simp)]
      have hp' : ¬ (s.t < i ∨ (s.t = i ∧ s.f < i)) := by
        intro hc
        have : pastB i s = true := by simpa [pastB] using hc
        rw [hp] at this; exact absurd this (by simp)
      by_cases h1 : s.f = i
      · rw [if_pos h1, txtP_late g i (by omega), goesB_late g i (by omega)]
        simp [readT, readB, h1]
      · rw [if_neg h1]
        by_cases h2 : i < s.f
        · rw [txtP_late g i (by omega), goesB_late g i (by omega)]
          simp [readT, readB, h1]
        · rw [txtP_late g i (by omega), goesB_late g i (by omega)]
          simp [readT, readB, h1]
theorem rest_drop (i : Int) (es : List Sp) : ∃ j, rest i es = es.drop j ∧ j ≤ es.length ∧ ∀ s ∈ es.take j, pastB i s = true := by
  induction es with
  | nil => exact ⟨0, rfl, by simp, by simp⟩
  | cons s r ih =>
    cases hp : pastB i s with
    | true =>
      obtain ⟨j, h1, h2, h3⟩ := ih
      refine ⟨j + 1, by simp [rest, hp, h1], by simpa using h2, ?_⟩
      intro s' hs'
      simp at hs'
      rcases hs' with rfl | hs'
      · exact hp
      · exact h3 s' hs'
    | false => exact ⟨0, by simp [rest, hp], by simp, by simp⟩
theorem past_mono {i : Int} {s : Sp} (h : pastB i s = true) : pastB (i + 1) s = true := by
  have h' : s.t < i ∨ (s.t = i ∧ s.f < i) := by simpa [pastB] using h
  simp [pastB]; omega
/-- those that were past stay so -/
theorem rest_next (i : Int) (es : List Sp) : rest (i + 1) (rest i es) = rest (i + 1) es := by
  induction es with
  | nil => rfl
  | cons s r ih =>
    cases hp : pastB i s with
    | true =>
      have e1 : rest i (s :: r) = rest i r := by simp [rest, hp]
      have e2 : rest (i + 1) (s :: r) = rest (i + 1) r := by simp [rest, past_mono hp]
      rw [e1, e2, ih]
    | false =>
      have e1 : rest i (s :: r) = s :: r := by simp [rest, hp]
      rw [e1]

end Go.Proofs.Ytbgbcmfgncneiaa
