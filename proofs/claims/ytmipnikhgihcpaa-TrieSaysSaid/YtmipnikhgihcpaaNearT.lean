/- NearSays, plain: the tree of words, as a list of nodes in the order of their coming. -/
import Derived.Test.YtmipnikhgihcpaaNearP
namespace Go.Proofs.Ytmipnikhgihcpaa
open Go.RowKit
set_option linter.unusedVariables false
set_option linter.unusedSimpArgs false

/-- a node: its word, the node over it, how far its word is from that one's -/
structure Nd where
  wd : List Int
  par : Nat
  key : Nat
def nd (A : List Nd) (i : Nat) : Nd := A.getD i ⟨[], 0, 0⟩
theorem nd_old {A : List Nd} {x : Nd} {i : Nat} (h : i < A.length) : nd (A ++ [x]) i = nd A i := by
  unfold nd
  rw [List.getD_eq_getElem?_getD, List.getD_eq_getElem?_getD, List.getElem?_append_left h]
theorem nd_new (A : List Nd) (x : Nd) : nd (A ++ [x]) A.length = x := by
  unfold nd
  rw [List.getD_eq_getElem?_getD, List.getElem?_append_right (Nat.le_refl _), Nat.sub_self]; rfl
def kidsOf (A : List Nd) (i : Nat) : List Nat := (List.range A.length).filter fun x => decide (1 ≤ x ∧ (nd A x).par = i)
theorem mem_kids {A : List Nd} {i x : Nat} : x ∈ kidsOf A i ↔ x < A.length ∧ 1 ≤ x ∧ (nd A x).par = i := by
  unfold kidsOf
  rw [List.mem_filter, List.mem_range, decide_eq_true_eq]
theorem kids_nodup (A : List Nd) (i : Nat) : (kidsOf A i).Nodup := List.Nodup.sublist List.filter_sublist List.nodup_range
theorem kids_new {A : List Nd} {x : Nd} (i : Nat) (h1 : 1 ≤ A.length) : kidsOf (A ++ [x]) i = kidsOf A i ++ (if x.par = i then [A.length] else []) := by
  unfold kidsOf
  rw [List.length_append, List.length_singleton, List.range_succ, List.filter_append]
  congr 1
  · refine List.filter_congr fun y hy => ?_
    rw [nd_old (List.mem_range.1 hy)]
  · by_cases e : x.par = i
    · rw [if_pos e, List.filter_cons_of_pos (by rw [nd_new]; simpa using ⟨h1, e⟩)]; rfl
    · rw [if_neg e, List.filter_cons_of_neg (by rw [nd_new]; simp; exact fun _ => e)]; rfl

/-- y lies over x, or is x -/
inductive Anc (A : List Nd) (i : Nat) : Nat → Prop
  | refl : Anc A i i
  | step {x : Nat} (h1 : 1 ≤ x) (h : Anc A i (nd A x).par) : Anc A i x
structure Inv (A : List Nd) : Prop where
  par : ∀ x, 1 ≤ x → x < A.length → (nd A x).par < x
  far : ∀ x c, x < A.length → 1 ≤ c → Anc A c x → dst (nd A (nd A c).par).wd (nd A x).wd = (nd A c).key
  uni : ∀ c c', 1 ≤ c → 1 ≤ c' → c < A.length → c' < A.length → (nd A c).par = (nd A c').par → (nd A c).key = (nd A c').key → c = c'
theorem Anc.le {A : List Nd} (hp : ∀ x, 1 ≤ x → x < A.length → (nd A x).par < x) {i x : Nat} (h : Anc A i x) (hx : x < A.length) : i ≤ x := by
  induction h with
  | refl => exact Nat.le_refl _
  | @step x h1 h ih => have := hp x h1 hx; have := ih (by omega); omega
theorem Anc.both {A : List Nd} {i j x : Nat} (h : Anc A i x) (h' : Anc A j x) : Anc A i j ∨ Anc A j i := by
  induction h with
  | refl => exact .inr h'
  | @step x h1 h ih =>
    cases h' with
    | refl => exact .inl (.step h1 h)
    | step _ h' => exact ih h'
theorem Inv.apart {A : List Nd} (hI : Inv A) {c c' x : Nat} (h1 : 1 ≤ c) (h1' : 1 ≤ c') (hx : x < A.length) (h : Anc A c x) (h' : Anc A c' x) (hp : (nd A c).par = (nd A c').par) : c = c' := by
  have hcx := h.le hI.par hx; have hcx' := h'.le hI.par hx
  rcases h.both h' with g | g
  · cases g with
    | refl => rfl
    | step _ g =>
      have := g.le hI.par (by have := hI.par c' h1' (by omega); omega)
      have := hI.par c h1 (by omega)
      omega
  · cases g with
    | refl => rfl
    | step _ g =>
      have := g.le hI.par (by have := hI.par c h1 (by omega); omega)
      have := hI.par c' h1' (by omega)
      omega
/-- what lies under a node: itself, and what lies under its kids -/
theorem Anc.down {A : List Nd} {i x : Nat} (h : Anc A i x) (hx : x < A.length) (hp : ∀ x, 1 ≤ x → x < A.length → (nd A x).par < x) : x = i ∨ ∃ c ∈ kidsOf A i, Anc A c x := by
  induction h with
  | refl => exact .inl rfl
  | @step x h1 h ih =>
    have := hp x h1 hx
    rcases ih (by omega) with e | ⟨c, hc, g⟩
    · exact .inr ⟨x, mem_kids.2 ⟨hx, h1, e⟩, .refl⟩
    · exact .inr ⟨c, hc, .step h1 g⟩
theorem Anc.up {A : List Nd} {i c x : Nat} (hc : c ∈ kidsOf A i) (h : Anc A c x) : Anc A i x := by
  obtain ⟨h1, h2, h3⟩ := mem_kids.1 hc
  induction h with
  | refl => exact .step h2 (by rw [h3]; exact .refl)
  | @step x g1 g ih => exact .step g1 ih
theorem Anc.old {A : List Nd} {y : Nd} (hp : ∀ x, 1 ≤ x → x < A.length → (nd A x).par < x) {i x : Nat} (h : Anc (A ++ [y]) i x) (hx : x < A.length) : Anc A i x := by
  induction h with
  | refl => exact .refl
  | @step x h1 h ih =>
    rw [nd_old hx] at h ih
    have := hp x h1 hx
    exact .step h1 (ih (by omega))
theorem Anc.root {A : List Nd} (hp : ∀ x, 1 ≤ x → x < A.length → (nd A x).par < x) : ∀ (k x : Nat), x ≤ k → x < A.length → Anc A 0 x
  | k, 0, _, _ => .refl
  | 0, x + 1, h, _ => by omega
  | k + 1, x + 1, h, hx => .step (by omega) (Anc.root hp k _ (by have := hp (x + 1) (by omega) hx; omega) (by have := hp (x + 1) (by omega) hx; omega))

/-- a word is on its way down to node i -/
def OnPath (A : List Nd) (i : Nat) (w : List Int) : Prop := ∀ c, 1 ≤ c → Anc A c i → dst (nd A (nd A c).par).wd w = (nd A c).key
theorem OnPath.root (A : List Nd) (hp : ∀ x, 1 ≤ x → x < A.length → (nd A x).par < x) (h0 : 0 < A.length) (w : List Int) : OnPath A 0 w := fun c h1 h => by have := h.le hp h0; omega
theorem OnPath.down {A : List Nd} {i j : Nat} {w : List Int} (h : OnPath A i w) (hj : j ∈ kidsOf A i) (hk : (nd A j).key = dst (nd A i).wd w) : OnPath A j w := by
  obtain ⟨h1, h2, h3⟩ := mem_kids.1 hj
  intro c hc g
  cases g with
  | refl => rw [h3, hk]
  | step _ g => rw [h3] at g; exact h c hc g
theorem Inv.one (w : List Int) : Inv [⟨w, 0, 0⟩] := by
  refine ⟨fun x h1 h2 => by simp at h2; omega, fun x c hx h1 h => ?_, fun c c' h1 h1' hc hc' _ _ => by simp at hc hc'; omega⟩
  have := h.le (fun x h1 h2 => by simp at h2; omega) hx
  simp at hx; omega
theorem Inv.put {A : List Nd} (hI : Inv A) {i : Nat} {w : List Int} (hi : i < A.length) (hO : OnPath A i w) (hn : ∀ c ∈ kidsOf A i, (nd A c).key ≠ dst (nd A i).wd w) : Inv (A ++ [⟨w, i, dst (nd A i).wd w⟩]) := by
  have hlen : (A ++ [(⟨w, i, dst (nd A i).wd w⟩ : Nd)]).length = A.length + 1 := by simp
  have hpar : ∀ x, 1 ≤ x → x < (A ++ [(⟨w, i, dst (nd A i).wd w⟩ : Nd)]).length → (nd (A ++ [⟨w, i, dst (nd A i).wd w⟩]) x).par < x := by
    intro x h1 hx
    rw [hlen] at hx
    by_cases e : x = A.length
    · subst e; rw [nd_new]; exact hi
    · rw [nd_old (by omega)]; exact hI.par x h1 (by omega)
  refine ⟨hpar, fun x c hx h1 h => ?_, fun c c' h1 h1' hc hc' e1 e2 => ?_⟩
  · have hcx := h.le hpar hx
    rw [hlen] at hx
    by_cases e : x = A.length
    · subst e
      rw [nd_new]
      by_cases ec : c = A.length
      · subst ec; rw [nd_new]; dsimp only; rw [nd_old hi]
      · have hcl : c < A.length := by omega
        rw [nd_old hcl, nd_old (by have := hI.par c h1 hcl; omega)]
        cases h with
        | refl => exact absurd rfl ec
        | step _ g => rw [nd_new] at g; exact hO c h1 (g.old hI.par hi)
    · have hxl : x < A.length := by omega
      rw [nd_old hxl, nd_old (show c < A.length by omega), nd_old (by have := hI.par c h1 (by omega); omega)]
      exact hI.far x c hxl h1 (h.old hI.par hxl)
  · rw [hlen] at hc hc'
    by_cases ec : c = A.length
    · by_cases ec' : c' = A.length
      · omega
      · have hl : c' < A.length := by omega
        subst ec
        rw [nd_new, nd_old hl] at e1 e2
        exact absurd e2.symm (hn c' (mem_kids.2 ⟨hl, h1', e1.symm⟩))
    · have hl : c < A.length := by omega
      by_cases ec' : c' = A.length
      · subst ec'
        rw [nd_new, nd_old hl] at e1 e2
        exact absurd e2 (hn c (mem_kids.2 ⟨hl, h1, e1⟩))
      · have hl' : c' < A.length := by omega
        rw [nd_old hl, nd_old hl'] at e1 e2
        exact hI.uni c c' h1 h1' hl hl' e1 e2
/-- what is pruned has nothing near enough -/
theorem Inv.prune {A : List Nd} (hI : Inv A) {i c x : Nat} {w : List Int} {most : Nat} (hc : c ∈ kidsOf A i) (hx : x < A.length) (h : Anc A c x) (hn : dst (nd A x).wd w ≤ most) :
    (nd A c).key ≤ dst (nd A i).wd w + most ∧ dst (nd A i).wd w ≤ (nd A c).key + most := by
  obtain ⟨h1, h2, h3⟩ := mem_kids.1 hc
  have e := hI.far x c hx h2 h
  rw [h3] at e
  have t1 := dst_tri (nd A i).wd w (nd A x).wd
  have t2 := dst_tri (nd A i).wd (nd A x).wd w
  rw [dst_comm w] at t1
  omega

end Go.Proofs.Ytmipnikhgihcpaa
