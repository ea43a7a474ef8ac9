/- NearSays, plain: the finds in the document's order. -/
import Derived.Test.YtmipnikhgihcpaaNear9
namespace Go.Proofs.Ytmipnikhgihcpaa
open Go.RowKit
set_option linter.unusedVariables false
set_option linter.unusedSimpArgs false

/-- those just so far -/
def blockL (D : Nat → Nat) (len d : Nat) : List N2 := ((List.range len).filter fun i => decide (D i = d)).map fun i : Nat => ⟨(i : Int), (d : Int)⟩
/-- those no farther than m, the nearest first -/
def nearsL (D : Nat → Nat) (len : Nat) : Nat → List N2
  | 0 => blockL D len 0
  | m + 1 => nearsL D len m ++ blockL D len (m + 1)
theorem blockL_mem {D : Nat → Nat} {len d : Nat} {x : N2} : x ∈ blockL D len d ↔ ∃ i, i < len ∧ D i = d ∧ x = ⟨(i : Int), (d : Int)⟩ := by
  unfold blockL
  simp only [List.mem_map, List.mem_filter, List.mem_range, decide_eq_true_eq]
  constructor
  · rintro ⟨i, ⟨h1, h2⟩, rfl⟩; exact ⟨i, h1, h2, rfl⟩
  · rintro ⟨i, h1, h2, rfl⟩; exact ⟨i, ⟨h1, h2⟩, rfl⟩
theorem nearsL_mem {D : Nat → Nat} {len : Nat} {x : N2} : ∀ {m : Nat}, x ∈ nearsL D len m ↔ ∃ i, i < len ∧ D i ≤ m ∧ x = ⟨(i : Int), (D i : Int)⟩
  | 0 => by
    unfold nearsL
    rw [blockL_mem]
    constructor
    · rintro ⟨i, h1, h2, rfl⟩; exact ⟨i, h1, by omega, by rw [h2]⟩
    · rintro ⟨i, h1, h2, rfl⟩; exact ⟨i, h1, by omega, by rw [show D i = 0 by omega]⟩
  | m + 1 => by
    unfold nearsL
    rw [List.mem_append, nearsL_mem, blockL_mem]
    constructor
    · rintro (⟨i, h1, h2, rfl⟩ | ⟨i, h1, h2, rfl⟩)
      · exact ⟨i, h1, by omega, rfl⟩
      · exact ⟨i, h1, by omega, by rw [h2]⟩
    · rintro ⟨i, h1, h2, rfl⟩
      by_cases h : D i ≤ m
      · exact .inl ⟨i, h1, h, rfl⟩
      · exact .inr ⟨i, h1, by omega, by rw [show D i = m + 1 by omega]⟩
theorem blockL_pw (D : Nat → Nat) (len d : Nat) : (blockL D len d).Pairwise fun x y => ltN x y = true := by
  unfold blockL
  rw [List.pairwise_map]
  refine List.Pairwise.imp ?_ (List.Pairwise.sublist List.filter_sublist List.pairwise_lt_range)
  intro a b h
  unfold ltN
  simp only [decide_eq_true_eq]
  exact .inr ⟨trivial, by omega⟩
theorem nearsL_pw (D : Nat → Nat) (len : Nat) : ∀ m, (nearsL D len m).Pairwise fun x y => ltN x y = true
  | 0 => blockL_pw D len 0
  | m + 1 => by
    unfold nearsL
    rw [List.pairwise_append]
    refine ⟨nearsL_pw D len m, blockL_pw D len (m + 1), fun x hx y hy => ?_⟩
    obtain ⟨i, h1, h2, rfl⟩ := nearsL_mem.1 hx
    obtain ⟨j, h3, h4, rfl⟩ := blockL_mem.1 hy
    unfold ltN
    simp only [decide_eq_true_eq]
    exact .inl (by omega)
theorem nodup_of_lt {l : List N2} (h : l.Pairwise fun x y => ltN x y = true) : l.Nodup := by
  refine h.imp fun {x y} hxy e => ?_
  subst e
  unfold ltN at hxy
  simp at hxy
/-- what Within answers is what the document lists -/
theorem findL_nears (A : List Nd) (wd : List Int) (k : Nat) : findL A wd k = nearsL (fun x => dst (nd A x).wd wd) A.length k := by
  unfold findL
  rw [sortN2_perm (m := nearsL (fun x => dst (nd A x).wd wd) A.length k), sortN2_same (nearsL_pw _ _ _)]
  refine (List.perm_ext_iff_of_nodup ?_ (nodup_of_lt (nearsL_pw _ _ _))).2 fun x => ?_
  · rw [List.Nodup, List.pairwise_map]
    refine List.Pairwise.imp ?_ (List.Pairwise.sublist List.filter_sublist List.pairwise_lt_range)
    intro a b h e
    unfold nearN at e
    simp only [N2.mk.injEq] at e
    omega
  · rw [nearsL_mem]
    simp only [List.mem_map, List.mem_filter, List.mem_range, decide_eq_true_eq, nearN]
    constructor
    · rintro ⟨i, ⟨h1, h2⟩, rfl⟩; exact ⟨i, h1, h2, rfl⟩
    · rintro ⟨i, h1, h2, rfl⟩; exact ⟨i, ⟨h1, h2⟩, rfl⟩
theorem blockL_none {D : Nat → Nat} {len d : Nat} (h : ∀ i, i < len → D i ≠ d) : blockL D len d = [] := by
  unfold blockL
  rw [List.filter_eq_nil_iff.2 (fun i hi => by simpa using h i (List.mem_range.1 hi))]; rfl
theorem nearsL_top {D : Nat → Nat} {len t : Nat} (h : ∀ i, i < len → D i ≤ t) : ∀ m, t ≤ m → nearsL D len m = nearsL D len t
  | 0, hm => by rw [show t = 0 by omega]
  | m + 1, hm => by
    by_cases e : t = m + 1
    · rw [e]
    · unfold nearsL
      rw [nearsL_top h m (by omega), blockL_none (fun i hi => by have := h i hi; omega), List.append_nil]
      cases t <;> rfl
theorem nearsL_pre (D : Nat → Nat) (len : Nat) {t : Nat} : ∀ m, t ≤ m → ∃ r, nearsL D len m = nearsL D len t ++ r
  | 0, hm => ⟨[], by rw [show t = 0 by omega, List.append_nil]⟩
  | m + 1, hm => by
    by_cases e : t = m + 1
    · exact ⟨[], by rw [e, List.append_nil]⟩
    · obtain ⟨r, hr⟩ := nearsL_pre D len m (by omega : t ≤ m)
      exact ⟨r ++ blockL D len (m + 1), by rw [nearsL, hr, List.append_assoc]⟩
theorem nearsL_some {D : Nat → Nat} {len t : Nat} (h : ∀ i, i < len → D i ≤ t) (h0 : 0 < len) {m : Nat} (hm : t ≤ m) : nearsL D len m ≠ [] := by
  intro e
  have : (⟨((0 : Nat) : Int), (D 0 : Int)⟩ : N2) ∈ nearsL D len m := nearsL_mem.2 ⟨0, h0, Nat.le_trans (h 0 h0) hm, rfl⟩
  rw [e] at this; cases this
theorem blockL_len (D : Nat → Nat) (len d : Nat) : (blockL D len d).length ≤ len := by
  unfold blockL
  rw [List.length_map]
  have := List.length_filter_le (fun i => decide (D i = d)) (List.range len)
  rwa [List.length_range] at this
theorem nearsL_len (D : Nat → Nat) (len m : Nat) : (nearsL D len m).length ≤ len := by
  have h := nodup_of_lt (nearsL_pw D len m)
  have h2 : ((nearsL D len m).map fun x => x.a.toNat).Nodup := by
    rw [List.Nodup, List.pairwise_map]
    refine (List.Pairwise.and_mem.1 h).imp fun {x y} hxy e => ?_
    obtain ⟨hx, hy, hne⟩ := hxy
    obtain ⟨i, h1, h2, rfl⟩ := nearsL_mem.1 hx
    obtain ⟨j, h3, h4, rfl⟩ := nearsL_mem.1 hy
    simp only [Int.toNat_natCast] at e
    subst e
    exact hne rfl
  have h3 := nodup_len len _ h2 (fun q hq => by
    obtain ⟨x, hx, rfl⟩ := List.mem_map.1 hq
    obtain ⟨i, h1, h2, rfl⟩ := nearsL_mem.1 hx
    simpa using h1)
  rwa [List.length_map] at h3

end Go.Proofs.Ytmipnikhgihcpaa
