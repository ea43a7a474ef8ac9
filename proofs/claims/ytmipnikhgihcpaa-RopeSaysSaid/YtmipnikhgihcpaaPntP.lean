/- Painting in plain lists: the signs of a way, of a plan, the best of some plans; the first and the last place at which two rows are unlike. -/
import Derived.Test.YtmipnikhgihcpaaBase
namespace Go.Proofs.Ytmipnikhgihcpaa
set_option linter.unusedVariables false

/-- the signs of a way from place f to place t -/
def wayS (B : List Int) (f t : Nat) : List Int :=
  if f ≤ t then (B.take t).drop f else if f - t ≤ 1 + t then List.replicate (f - t) 8 else 13 :: B.take t
def goS (B : List Int) (k : Nat) (s : Nat × List Int) : Nat × List Int := (k, s.2 ++ wayS B s.1 k)
def stepS (B : List Int) (s : Nat × List Int) (p : Nat × Option Nat) : Nat × List Int :=
  match p.2 with
  | none => ((goS B p.1 s).1, (goS B p.1 s).2 ++ [11])
  | some y => goS B y (goS B p.1 s)
def planS (B : List Int) (pa : Nat) (steps : List (Nat × Option Nat)) (pb : Nat) : List Int := (goS B pb (steps.foldl (stepS B) (pa, []))).2
def betterS (b s : List Int) : List Int := if s.length < b.length then s else b
def bestS (b : List Int) (l : List (List Int)) : List Int := l.foldl betterS b
theorem bestS_snoc (b : List Int) (l : List (List Int)) (s : List Int) : bestS b (l ++ [s]) = betterS (bestS b l) s := by simp [bestS]
theorem bestS_append (b : List Int) (l m : List (List Int)) : bestS b (l ++ m) = bestS (bestS b l) m := by simp [bestS]

/-- the plans with a wiping at place p -/
def plansAt (lo hi p : Nat) : List (List (Nat × Option Nat)) :=
  if lo < hi then [[(lo, some hi), (p, none)], [(p, none), (lo, some hi)]] else [[(p, none)]]
def plansTo (lo hi full : Nat) : Nat → List (List (Nat × Option Nat))
  | 0 => []
  | k + 1 => plansTo lo hi full k ++ plansAt lo hi (full + k)
/-- what both sides answer -/
def paintV (B : List Int) (pa pb x y full lo hi fi la : Nat) : List Int :=
  if x < y then
    (if fi < la then bestS (planS B pa [(x, some y)] pb) ((plansTo lo hi full (fi + 1 - full)).map (fun p => planS B pa p pb)) else planS B pa [(x, some y)] pb)
  else planS B pa [] pb

theorem paintV_eq (B : List Int) (pa pb x y full lo hi fi la : Nat) :
    (y ≤ x → paintV B pa pb x y full lo hi fi la = [] ++ wayS B pa pb) ∧
    (x < y → la ≤ fi → paintV B pa pb x y full lo hi fi la = (([] ++ wayS B pa x) ++ wayS B x y) ++ wayS B y pb) ∧
    (x < y → fi < la → paintV B pa pb x y full lo hi fi la = bestS ((([] ++ wayS B pa x) ++ wayS B x y) ++ wayS B y pb) ((plansTo lo hi full (fi + 1 - full)).map (fun p => planS B pa p pb))) := by
  refine ⟨fun h => ?_, fun h h2 => ?_, fun h h2 => ?_⟩
  · unfold paintV; rw [if_neg (by omega)]; rfl
  · unfold paintV; rw [if_pos h, if_neg (by omega)]; rfl
  · unfold paintV; rw [if_pos h, if_pos h2]; rfl

/-- the first and the end of the places within f to t at which two rows are unlike -/
structure RngD (A B : List Int) (f t x y : Nat) : Prop where
  fx : f ≤ x
  xy : x ≤ y
  yt : y ≤ t
  lo : ∀ i, f ≤ i → i < x → ix A i = ix B i
  hi : ∀ i, y ≤ i → i < t → ix A i = ix B i
  ends : x < y → ix A x ≠ ix B x ∧ ix A (y - 1) ≠ ix B (y - 1)
  none : x = y → x = t
theorem RngD.unique {A B : List Int} {f t x y x' y' : Nat} (h : RngD A B f t x y) (k : RngD A B f t x' y') : x = x' ∧ y = y' := by
  obtain ⟨h1, h2, h3, h4, h5, h6, h7⟩ := h
  obtain ⟨k1, k2, k3, k4, k5, k6, k7⟩ := k
  have hx : x = x' := by
    rcases Nat.lt_trichotomy x x' with hlt | heq | hgt
    · exfalso
      have := k4 x h1 hlt
      rcases Nat.lt_or_ge x y with hxy | hxy
      · exact (h6 hxy).1 this
      · have := h7 (by omega); omega
    · exact heq
    · exfalso
      have := h4 x' k1 hgt
      rcases Nat.lt_or_ge x' y' with hxy | hxy
      · exact (k6 hxy).1 this
      · have := k7 (by omega); omega
  subst hx
  refine ⟨rfl, ?_⟩
  rcases Nat.lt_trichotomy y y' with hlt | heq | hgt
  · exfalso
    have := h5 (y' - 1) (by omega) (by omega)
    exact (k6 (by omega)).2 this
  · exact heq
  · exfalso
    have := k5 (y - 1) (by omega) (by omega)
    exact (h6 (by omega)).2 this
theorem RngD.exists (A B : List Int) (f t : Nat) (h : f ≤ t) : ∃ x y, RngD A B f t x y := by
  induction t with
  | zero => exact ⟨f, 0, by omega, by omega, Nat.le_refl _, fun i h1 h2 => by omega, fun i h1 h2 => by omega, fun h => by omega, fun h => by omega⟩
  | succ t ih =>
    rcases Nat.lt_or_ge t f with hlt | hge
    · obtain rfl : f = t + 1 := by omega
      exact ⟨t + 1, t + 1, Nat.le_refl _, Nat.le_refl _, Nat.le_refl _, fun i h1 h2 => by omega, fun i h1 h2 => by omega, fun h => by omega, fun h => rfl⟩
    · obtain ⟨x, y, h1, h2, h3, h4, h5, h6, h7⟩ := ih hge
      by_cases he : ix A t = ix B t
      · rcases Nat.lt_or_ge x y with hxy | hxy
        · refine ⟨x, y, h1, h2, by omega, h4, fun i hi1 hi2 => ?_, h6, fun h => by omega⟩
          rcases Nat.lt_or_ge i t with hi | hi
          · exact h5 i hi1 hi
          · obtain rfl : i = t := by omega
            exact he
        · have hxt := h7 (by omega)
          refine ⟨t + 1, t + 1, by omega, Nat.le_refl _, Nat.le_refl _, fun i hi1 hi2 => ?_, fun i hi1 hi2 => by omega, fun h => by omega, fun h => rfl⟩
          rcases Nat.lt_or_ge i t with hi | hi
          · exact h4 i hi1 (by omega)
          · obtain rfl : i = t := by omega
            exact he
      · rcases Nat.lt_or_ge x y with hxy | hxy
        · exact ⟨x, t + 1, h1, by omega, Nat.le_refl _, h4, fun i hi1 hi2 => by omega, fun _ => ⟨(h6 hxy).1, he⟩, fun h => by omega⟩
        · have hxt := h7 (by omega)
          exact ⟨x, t + 1, h1, by omega, Nat.le_refl _, h4, fun i hi1 hi2 => by omega, fun _ => ⟨by rw [hxt]; exact he, he⟩, fun h => by omega⟩

/-- behind the last cell below n that is not blank -/
structure FullP (B : List Int) (n full : Nat) : Prop where
  le : full ≤ n
  blank : ∀ i, full ≤ i → i < n → ix B i = 32
  last : 0 < full → ix B (full - 1) ≠ 32
theorem FullP.exists (B : List Int) (n : Nat) : ∃ full, FullP B n full := by
  induction n with
  | zero => exact ⟨0, Nat.le_refl _, fun i h1 h2 => by omega, fun h => by omega⟩
  | succ n ih =>
    by_cases h : ix B n = 32
    · obtain ⟨f, h1, h2, h3⟩ := ih
      refine ⟨f, by omega, fun i hi1 hi2 => ?_, h3⟩
      rcases Nat.lt_or_ge i n with hi | hi
      · exact h2 i hi1 hi
      · obtain rfl : i = n := by omega
        exact h
    · exact ⟨n + 1, Nat.le_refl _, fun i h1 h2 => by omega, fun _ => h⟩
theorem FullP.unique {B : List Int} {n f g : Nat} (h : FullP B n f) (k : FullP B n g) : f = g := by
  obtain ⟨h1, h2, h3⟩ := h
  obtain ⟨k1, k2, k3⟩ := k
  rcases Nat.lt_trichotomy f g with hlt | heq | hgt
  · exact absurd (h2 (g - 1) (by omega) (by omega)) (k3 (by omega))
  · exact heq
  · exact absurd (k2 (f - 1) (by omega) (by omega)) (h3 (by omega))

/-- the places below k with a property, rising -/
def placesP (P : Nat → Bool) : Nat → List Int
  | 0 => []
  | k + 1 => if P k then placesP P k ++ [(k : Int)] else placesP P k
theorem placesP_mem (P : Nat → Bool) (k : Nat) (z : Int) : z ∈ placesP P k ↔ ∃ i : Nat, z = (i : Int) ∧ i < k ∧ P i = true := by
  induction k with
  | zero => simp [placesP]
  | succ k ih =>
    unfold placesP
    split
    · rename_i hp
      rw [List.mem_append, ih]
      constructor
      · rintro (⟨i, rfl, h1, h2⟩ | h)
        · exact ⟨i, rfl, by omega, h2⟩
        · simp at h; subst h; exact ⟨k, rfl, by omega, hp⟩
      · rintro ⟨i, rfl, h1, h2⟩
        rcases Nat.lt_or_ge i k with h | h
        · exact .inl ⟨i, rfl, h, h2⟩
        · obtain rfl : i = k := by omega
          exact .inr (by simp)
    · rename_i hp
      rw [ih]
      constructor
      · rintro ⟨i, rfl, h1, h2⟩; exact ⟨i, rfl, by omega, h2⟩
      · rintro ⟨i, rfl, h1, h2⟩
        rcases Nat.lt_or_ge i k with h | h
        · exact ⟨i, rfl, h, h2⟩
        · obtain rfl : i = k := by omega
          exact absurd h2 hp
theorem placesP_len (P : Nat → Bool) (k : Nat) : (placesP P k).length ≤ k := by
  induction k with
  | zero => simp [placesP]
  | succ k ih =>
    unfold placesP
    split
    · rw [List.length_append, List.length_singleton]; omega
    · omega
theorem placesP_last (P : Nat → Bool) (k : Nat) (h : 0 < (placesP P k).length) :
    ∃ j : Nat, ix (placesP P k) ((placesP P k).length - 1) = (j : Int) ∧ j < k ∧ P j = true ∧ ∀ i, j < i → i < k → P i = false := by
  induction k with
  | zero => simp [placesP] at h
  | succ k ih =>
    by_cases hp : P k = true
    · have e : placesP P (k + 1) = placesP P k ++ [(k : Int)] := by rw [placesP, if_pos hp]
      refine ⟨k, ?_, by omega, hp, fun i h1 h2 => by omega⟩
      rw [e, List.length_append, List.length_singleton, Nat.add_sub_cancel]
      simp [ix]
    · have e : placesP P (k + 1) = placesP P k := by rw [placesP, if_neg hp]
      rw [e] at h ⊢
      obtain ⟨j, h1, h2, h3, h4⟩ := ih h
      refine ⟨j, h1, by omega, h3, fun i hi1 hi2 => ?_⟩
      rcases Nat.lt_or_ge i k with hi | hi
      · exact h4 i hi1 hi
      · obtain rfl : i = k := by omega
        simpa using hp
theorem placesP_first (P : Nat → Bool) (k : Nat) (h : 0 < (placesP P k).length) :
    ∃ j : Nat, ix (placesP P k) 0 = (j : Int) ∧ j < k ∧ P j = true ∧ ∀ i, i < j → P i = false := by
  induction k with
  | zero => simp [placesP] at h
  | succ k ih =>
    by_cases hp : P k = true
    · have e : placesP P (k + 1) = placesP P k ++ [(k : Int)] := by rw [placesP, if_pos hp]
      rcases Nat.eq_zero_or_pos (placesP P k).length with h0 | h0
      · have hn : placesP P k = [] := List.eq_nil_of_length_eq_zero h0
        refine ⟨k, by rw [e, hn]; simp [ix], by omega, hp, fun i hi => ?_⟩
        cases hpi : P i with
        | false => rfl
        | true =>
          have := (placesP_mem P k i).2 ⟨i, rfl, hi, hpi⟩
          rw [hn] at this; simp at this
      · obtain ⟨j, h1, h2, h3, h4⟩ := ih h0
        exact ⟨j, by rw [e, ix_append_left h0]; exact h1, by omega, h3, h4⟩
    · have e : placesP P (k + 1) = placesP P k := by rw [placesP, if_neg hp]
      rw [e] at h ⊢
      obtain ⟨j, h1, h2, h3, h4⟩ := ih h
      exact ⟨j, h1, by omega, h3, h4⟩
def unlikeP (A B : List Int) (f t : Nat) (i : Nat) : Bool := decide (f ≤ i) && decide (i < t) && (ix A i != ix B i)
theorem unlikeP_false {A B : List Int} {f t i : Nat} (h : unlikeP A B f t i = false) (h1 : f ≤ i) (h2 : i < t) : ix A i = ix B i := by
  simpa [unlikeP, h1, h2] using h
theorem unlikeP_true {A B : List Int} {f t i : Nat} (h : unlikeP A B f t i = true) : f ≤ i ∧ i < t ∧ ix A i ≠ ix B i := by
  simp [unlikeP] at h; exact ⟨h.1.1, h.1.2, h.2⟩
/-- the places at which rows are unlike, against first and end -/
theorem RngD.places {A B : List Int} {f t x y : Nat} (h : RngD A B f t x y) (n : Nat) (hn : t ≤ n) :
    (x < y ↔ 0 < (placesP (unlikeP A B f t) n).length) ∧ (x < y → ix (placesP (unlikeP A B f t) n) 0 = (x : Int) ∧ ix (placesP (unlikeP A B f t) n) ((placesP (unlikeP A B f t) n).length - 1) + 1 = (y : Int)) := by
  obtain ⟨h1, h2, h3, h4, h5, h6, h7⟩ := h
  have hpos : x < y → 0 < (placesP (unlikeP A B f t) n).length := fun hxy => by
    have := (placesP_mem (unlikeP A B f t) n x).2 ⟨x, rfl, by omega, by simp [unlikeP]; exact ⟨⟨h1, by omega⟩, (h6 hxy).1⟩⟩
    exact List.length_pos_of_mem this
  refine ⟨⟨hpos, fun hp => ?_⟩, fun hxy => ?_⟩
  · obtain ⟨j, -, hj2, hj3, -⟩ := placesP_first _ n hp
    obtain ⟨k1, k2, k3⟩ := unlikeP_true hj3
    rcases Nat.lt_or_ge x y with hlt | hge
    · exact hlt
    · exfalso
      have := h7 (by omega)
      exact k3 (h4 j k1 (by omega))
  · obtain ⟨j, e1, hj2, hj3, hj4⟩ := placesP_first _ n (hpos hxy)
    obtain ⟨k, e2, hk2, hk3, hk4⟩ := placesP_last _ n (hpos hxy)
    obtain ⟨j1, j2, j3⟩ := unlikeP_true hj3
    obtain ⟨k1, k2, k3⟩ := unlikeP_true hk3
    have hjx : j = x := by
      rcases Nat.lt_trichotomy j x with hlt | heq | hgt
      · exact absurd (h4 j j1 hlt) j3
      · exact heq
      · exact absurd (unlikeP_false (hj4 x hgt) h1 (by omega)) (h6 hxy).1
    have hky : k + 1 = y := by
      rcases Nat.lt_trichotomy (k + 1) y with hlt | heq | hgt
      · exact absurd (unlikeP_false (hk4 (y - 1) (by omega) (by omega)) (by omega) (by omega)) (h6 hxy).2
      · exact heq
      · exact absurd (h5 k (by omega) k2) k3
    subst hjx
    exact ⟨e1, by rw [e2]; omega⟩
end Go.Proofs.Ytmipnikhgihcpaa
