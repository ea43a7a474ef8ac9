/- Slices that lie in blocks of a kind: kept by stores into others. -/
import Derived.Test.YtmipnikhgihcpaaVRow
namespace Go.Proofs.Ytmipnikhgihcpaa
open Go.RowKit
set_option linter.unusedVariables false
set_option linter.unusedSimpArgs false

theorem cell_other {w : World} {p a : Addr} {u v : Value} (h : w.cell? p = some v) (hne : p.block ≠ a.block) : (w.setCell a u).cell? p = some v := by
  unfold World.cell? at *
  rw [Below.heap_setCell _ _ _ _ hne]; exact h

/-- a slice of numbers in blocks of kind P -/
def SlP (P : Nat → Prop) (w : World) (v : Value) (xs : List Int) : Prop := ∃ a n c, v = .slice a n c ∧ xs.length = n ∧ n ≤ c ∧ c ≤ 9223372036854775807 ∧ Ints w a xs ∧ (a = none → n = 0) ∧ ∀ ad, a = some ad → 0 < n → P ad.block
theorem SlP.sl {P : Nat → Prop} {w : World} {v : Value} {xs : List Int} (h : SlP P w v xs) : Sl w v xs := by
  obtain ⟨a, n, c, h1, h2, h3, h4, h5, h6, _⟩ := h
  exact ⟨a, n, c, h1, h2, h3, h4, h5, h6⟩
theorem SlP.imp {P Q : Nat → Prop} {w : World} {v : Value} {xs : List Int} (h : SlP P w v xs) (hi : ∀ k, P k → Q k) : SlP Q w v xs := by
  obtain ⟨a, n, c, h1, h2, h3, h4, h5, h6, h7⟩ := h
  exact ⟨a, n, c, h1, h2, h3, h4, h5, h6, fun ad e p => hi _ (h7 ad e p)⟩
theorem SlP.keep {P : Nat → Prop} {w w' : World} {v : Value} {xs : List Int} (h : SlP P w v xs) (hc : ∀ p v, P p.block → w.cell? p = some v → w'.cell? p = some v) : SlP P w' v xs := by
  obtain ⟨a, n, c, h1, h2, h3, h4, h5, h6, h7⟩ := h
  refine ⟨a, n, c, h1, h2, h3, h4, ?_, h6, h7⟩
  rcases h5 with h5 | ⟨b, o, rfl, h5⟩
  · exact .inl h5
  · exact .inr ⟨b, o, rfl, fun i hi => hc _ _ (show P b from h7 ⟨b, o, none⟩ rfl (by omega)) (h5 i hi)⟩
theorem SlP.setCell {P : Nat → Prop} {w : World} {v : Value} {xs : List Int} (h : SlP P w v xs) {a : Addr} (ha : ¬ P a.block) (u : Value) : SlP P (w.setCell a u) v xs :=
  h.keep fun p v hp hc => cell_other hc (fun e => ha (e ▸ hp))
theorem SlP.below {P : Nat → Prop} {w w' : World} {v : Value} {xs : List Int} (h : SlP P w v xs) (hb : Below w.heap.size w w') : SlP P w' v xs := h.keep fun p v _ hc => below_keeps hb p v hc
theorem SlP.drewN {P : Nat → Prop} {w : World} {v : Value} {xs : List Int} (h : SlP P w v xs) (n : Nat) : SlP P (w.drewN n) v xs := h.keep fun _ _ _ h => h
theorem SlP.drew {P : Nat → Prop} {w : World} {v : Value} {xs : List Int} (h : SlP P w v xs) : SlP P w.drew v xs := h.keep fun _ _ _ h => h
theorem SlP.nil (P : Nat → Prop) (w : World) : SlP P w (.slice none 0 0) [] := ⟨none, 0, 0, rfl, rfl, Nat.le_refl _, by omega, Ints.nil _ _, fun _ => rfl, fun ad e => by cases e⟩
theorem Sl.lt {w : World} {v : Value} {xs : List Int} (h : Sl w v xs) : SlP (fun k => k < w.heap.size) w v xs := by
  obtain ⟨a, n, c, h1, h2, h3, h4, h5, h6⟩ := h
  refine ⟨a, n, c, h1, h2, h3, h4, h5, h6, fun ad e p => ?_⟩
  obtain ⟨b, o, hb, hc⟩ := h5.at (k := 0) (by omega)
  rw [e] at hb
  simp only [Option.some.injEq] at hb
  subst hb
  exact cell_lt (hc 0 (by omega))
theorem Own.slp {e : TypeId} {base : Nat} {w : World} {v : Value} {xs : List Int} (h : Own e base w v xs) : SlP (fun k => base ≤ k) w v xs := by
  obtain ⟨a, n, c, h1, h2, h3, h4, h5, h6⟩ := h.sl
  refine ⟨a, n, c, h1, h2, h3, h4, h5, h6, fun ad ea p => ?_⟩
  subst h1 ea
  exact h.row ad.block (by rcases h.2 with ⟨h8, _⟩ | ⟨g, cap, cur, h8, _⟩ <;> simp_all [Value.ownBlock])
theorem SlP.get {P : Nat → Prop} {w : World} {a : Option Addr} {n c : Nat} {xs : List Int} (h : SlP P w (.slice a n c) xs) : xs.length = n ∧ n ≤ c ∧ c ≤ 9223372036854775807 ∧ Ints w a xs ∧ (a = none → n = 0) := h.sl.get
theorem SlP.form {P : Nat → Prop} {w : World} {v : Value} {xs : List Int} (h : SlP P w v xs) : ∃ a n c, v = .slice a n c := by
  obtain ⟨a, n, c, h1, _⟩ := h
  exact ⟨a, n, c, h1⟩

/-- a row of values in blocks of kind P -/
def VsP (P : Nat → Prop) (w : World) (v : Value) (vs : List Value) : Prop := ∃ a n c, v = .slice a n c ∧ vs.length = n ∧ n ≤ c ∧ c ≤ 9223372036854775807 ∧ Vals w a vs ∧ (a = none → n = 0) ∧ ∀ ad, a = some ad → 0 < n → P ad.block
theorem VsP.vs {P : Nat → Prop} {w : World} {v : Value} {vs : List Value} (h : VsP P w v vs) : Vs w v vs := by
  obtain ⟨a, n, c, h1, h2, h3, h4, h5, h6, _⟩ := h
  exact ⟨a, n, c, h1, h2, h3, h4, h5, h6⟩
theorem VsP.imp {P Q : Nat → Prop} {w : World} {v : Value} {vs : List Value} (h : VsP P w v vs) (hi : ∀ k, P k → Q k) : VsP Q w v vs := by
  obtain ⟨a, n, c, h1, h2, h3, h4, h5, h6, h7⟩ := h
  exact ⟨a, n, c, h1, h2, h3, h4, h5, h6, fun ad e p => hi _ (h7 ad e p)⟩
theorem VsP.keep {P : Nat → Prop} {w w' : World} {v : Value} {vs : List Value} (h : VsP P w v vs) (hc : ∀ p v, P p.block → w.cell? p = some v → w'.cell? p = some v) : VsP P w' v vs := by
  obtain ⟨a, n, c, h1, h2, h3, h4, h5, h6, h7⟩ := h
  refine ⟨a, n, c, h1, h2, h3, h4, ?_, h6, h7⟩
  rcases h5 with h5 | ⟨b, o, rfl, h5⟩
  · exact .inl h5
  · exact .inr ⟨b, o, rfl, fun i hi => hc _ _ (show P b from h7 ⟨b, o, none⟩ rfl (by omega)) (h5 i hi)⟩
theorem VsP.nil (P : Nat → Prop) (w : World) : VsP P w (.slice none 0 0) [] := ⟨none, 0, 0, rfl, rfl, Nat.le_refl _, by omega, Vals.nil _ _, fun _ => rfl, fun ad e => by cases e⟩
theorem Vs.lt {w : World} {v : Value} {vs : List Value} (h : Vs w v vs) : VsP (fun k => k < w.heap.size) w v vs := by
  obtain ⟨a, n, c, h1, h2, h3, h4, h5, h6⟩ := h
  refine ⟨a, n, c, h1, h2, h3, h4, h5, h6, fun ad e p => ?_⟩
  obtain ⟨b, o, hb, hc⟩ := h5.at (k := 0) (by omega)
  rw [e] at hb
  simp only [Option.some.injEq] at hb
  subst hb
  exact cell_lt (hc 0 (by omega))
theorem VOwn.vsp {e : TypeId} {base : Nat} {w : World} {v : Value} {vs : List Value} (h : VOwn e base w v vs) : VsP (fun k => base ≤ k) w v vs := by
  obtain ⟨a, n, c, h1, h2, h3, h4, h5, h6⟩ := h.vs
  refine ⟨a, n, c, h1, h2, h3, h4, h5, h6, fun ad ea p => ?_⟩
  subst h1 ea
  exact h.row ad.block (by rcases h.2 with ⟨h8, _⟩ | ⟨g, cap, cur, h8, _⟩ <;> simp_all [Value.ownBlock])
def ListsP (P : Nat → Prop) (w : World) (vs : List Value) (X : List (List Int)) : Prop := vs.length = X.length ∧ ∀ i, i < X.length → SlP P w (vx vs i) (rx X i)
theorem ListsP.lists {P : Nat → Prop} {w : World} {vs : List Value} {X : List (List Int)} (h : ListsP P w vs X) : Lists w vs X := ⟨h.1, fun i hi => (h.2 i hi).sl⟩
theorem ListsP.imp {P Q : Nat → Prop} {w w' : World} {vs : List Value} {X : List (List Int)} (h : ListsP P w vs X) (hi : ∀ v xs, SlP P w v xs → SlP Q w' v xs) : ListsP Q w' vs X := ⟨h.1, fun i k => hi _ _ (h.2 i k)⟩
theorem ListsP.append {P : Nat → Prop} {w : World} {vs us : List Value} {X Y : List (List Int)} (h : ListsP P w vs X) (g : ListsP P w us Y) : ListsP P w (vs ++ us) (X ++ Y) := by
  refine ⟨by simp [h.1, g.1], fun i hi => ?_⟩
  by_cases hl : i < X.length
  · rw [vx_left (by rw [h.1]; exact hl), rx_left hl]; exact h.2 i hl
  · obtain ⟨j, rfl⟩ : ∃ j, i = X.length + j := ⟨i - X.length, by omega⟩
    rw [rx_right, ← h.1, vx_right]
    exact g.2 j (by simp at hi; omega)
theorem ListsP.one {P : Nat → Prop} {w : World} {v : Value} {xs : List Int} (h : SlP P w v xs) : ListsP P w [v] [xs] := ⟨rfl, fun i hi => by
  obtain rfl : i = 0 := by simp at hi; omega
  exact h⟩
theorem Lists.lt {w : World} {vs : List Value} {X : List (List Int)} (h : Lists w vs X) : ListsP (fun k => k < w.heap.size) w vs X := ⟨h.len, fun i hi => (h.sl i hi).lt⟩

/-- what is read lies in the heap -/
theorem SlP.lt {P : Nat → Prop} {w : World} {v : Value} {xs : List Int} (h : SlP P w v xs) : SlP (fun k => P k ∧ k < w.heap.size) w v xs := by
  obtain ⟨a, n, c, h1, h2, h3, h4, h5, h6, h7⟩ := h
  refine ⟨a, n, c, h1, h2, h3, h4, h5, h6, fun ad e p => ⟨h7 ad e p, ?_⟩⟩
  obtain ⟨b, o, hb, hc⟩ := h5.at (k := 0) (by omega)
  rw [e] at hb
  simp only [Option.some.injEq] at hb
  subst hb
  exact cell_lt (hc 0 (by omega))
theorem VsP.lt {P : Nat → Prop} {w : World} {v : Value} {vs : List Value} (h : VsP P w v vs) : VsP (fun k => P k ∧ k < w.heap.size) w v vs := by
  obtain ⟨a, n, c, h1, h2, h3, h4, h5, h6, h7⟩ := h
  refine ⟨a, n, c, h1, h2, h3, h4, h5, h6, fun ad e p => ⟨h7 ad e p, ?_⟩⟩
  obtain ⟨b, o, hb, hc⟩ := h5.at (k := 0) (by omega)
  rw [e] at hb
  simp only [Option.some.injEq] at hb
  subst hb
  exact cell_lt (hc 0 (by omega))
theorem ListsP.lt {P : Nat → Prop} {w : World} {vs : List Value} {X : List (List Int)} (h : ListsP P w vs X) : ListsP (fun k => P k ∧ k < w.heap.size) w vs X := ⟨h.1, fun i hi => (h.2 i hi).lt⟩

theorem ListsP.drop {P : Nat → Prop} {w : World} {vs : List Value} {X : List (List Int)} (h : ListsP P w vs X) (k : Nat) : ListsP P w (vs.drop k) (X.drop k) := by
  refine ⟨by simp [h.1], fun i hi => ?_⟩
  rw [vx_drop, rx_drop]; exact h.2 _ (by simp at hi; omega)

end Go.Proofs.Ytmipnikhgihcpaa
