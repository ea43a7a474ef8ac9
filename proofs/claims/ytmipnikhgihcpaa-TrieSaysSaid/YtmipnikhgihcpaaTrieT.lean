/- TrieSays, plain: the trie as the list of its nodes' beginnings, in the order of their coming. -/
import Derived.Test.YtmipnikhgihcpaaVRow
namespace Go.Proofs.Ytmipnikhgihcpaa
open Go.RowKit
set_option linter.unusedVariables false
set_option linter.unusedSimpArgs false

theorem rx_old {A : List (List Int)} {p : List Int} {i : Nat} (h : i < A.length) : rx (A ++ [p]) i = rx A i := rx_left h
theorem rx_new (A : List (List Int)) (p : List Int) : rx (A ++ [p]) A.length = p := by
  unfold rx
  rw [List.getD_eq_getElem?_getD, List.getElem?_append_right (Nat.le_refl _), Nat.sub_self]; rfl
/-- c lies right under x -/
def under (p q : List Int) : Bool := decide (q ≠ [] ∧ q.dropLast = p)
def keyT (q : List Int) : Int := q.getLastD 0
theorem under_iff {p q : List Int} : under p q = true ↔ q = p ++ [keyT q] := by
  unfold under keyT
  rw [decide_eq_true_eq]
  constructor
  · rintro ⟨h1, rfl⟩
    conv => lhs; rw [← List.dropLast_concat_getLast h1]
    rw [List.getLastD_eq_getLast?, List.getLast?_eq_some_getLast h1]; rfl
  · intro h
    rw [h]
    exact ⟨by simp, by simp⟩
theorem keyT_snoc (p : List Int) (c : Int) : keyT (p ++ [c]) = c := by unfold keyT; simp
theorem under_snoc (p : List Int) (c : Int) : under p (p ++ [c]) = true := by rw [under_iff, keyT_snoc]
def kidsT (A : List (List Int)) (i : Nat) : List Nat := (List.range A.length).filter fun y => under (rx A i) (rx A y)
theorem mem_kidsT {A : List (List Int)} {i y : Nat} : y ∈ kidsT A i ↔ y < A.length ∧ rx A y = rx A i ++ [keyT (rx A y)] := by
  unfold kidsT
  rw [List.mem_filter, List.mem_range, under_iff]
theorem kidsT_nodup (A : List (List Int)) (i : Nat) : (kidsT A i).Nodup := List.Nodup.sublist List.filter_sublist List.nodup_range
theorem kidsT_put {A : List (List Int)} {p : List Int} {i : Nat} (hi : i < A.length) : kidsT (A ++ [p]) i = kidsT A i ++ (if under (rx A i) p then [A.length] else []) := by
  unfold kidsT
  rw [List.length_append, List.length_singleton, List.range_succ, List.filter_append, rx_old hi]
  congr 1
  · refine List.filter_congr fun y hy => ?_
    rw [rx_old (List.mem_range.1 hy)]
  · by_cases e : under (rx A i) p = true
    · rw [if_pos e, List.filter_cons_of_pos (by rw [rx_new]; exact e)]; rfl
    · rw [if_neg e, List.filter_cons_of_neg (by rw [rx_new]; exact e)]; rfl

def insT (S : List (List Int)) (u : List Int) : List (List Int) := if u ∈ S then S else S ++ [u]
def inS (S : List (List Int)) (p : List Int) : Bool := decide (p ∈ S)
def cnt (S : List (List Int)) (p : List Int) : Nat := S.countP fun s => decide (p <+: s)
theorem insT_mem {S : List (List Int)} {u v : List Int} : v ∈ insT S u ↔ v ∈ S ∨ v = u := by
  unfold insT
  by_cases h : u ∈ S
  · rw [if_pos h]
    exact ⟨.inl, fun g => g.elim id fun e => e ▸ h⟩
  · rw [if_neg h, List.mem_append, List.mem_singleton]
theorem insT_nodup {S : List (List Int)} (h : S.Nodup) (u : List Int) : (insT S u).Nodup := by
  unfold insT
  by_cases hu : u ∈ S
  · rw [if_pos hu]; exact h
  · rw [if_neg hu, List.nodup_append]
    exact ⟨h, by simp, fun a ha b hb => by rw [List.mem_singleton] at hb; subst hb; rintro rfl; exact hu ha⟩
theorem cnt_ins {S : List (List Int)} {u p : List Int} : cnt (insT S u) p = cnt S p + (if u ∉ S ∧ p <+: u then 1 else 0) := by
  unfold insT
  by_cases hu : u ∈ S
  · rw [if_pos hu, if_neg (by simp [hu])]; rfl
  · rw [if_neg hu]
    unfold cnt
    rw [List.countP_append]
    by_cases hp : p <+: u
    · simp [hu, hp]
    · simp [hu, hp]
theorem cnt_le (S : List (List Int)) (p : List Int) : cnt S p ≤ S.length := List.countP_le_length
theorem insT_len (S : List (List Int)) (u : List Int) : (insT S u).length ≤ S.length + 1 := by
  unfold insT
  by_cases hu : u ∈ S
  · rw [if_pos hu]; omega
  · rw [if_neg hu]; simp

structure TInv (A S : List (List Int)) : Prop where
  pos : 0 < A.length
  root : rx A 0 = []
  nodup : A.Nodup
  pre : ∀ p ∈ A, p ≠ [] → p.dropLast ∈ A
  sub : ∀ s ∈ S, s ∈ A
  short : ∀ p ∈ A, p.length ≤ 24
theorem rx_memT {A : List (List Int)} {i : Nat} (h : i < A.length) : rx A i ∈ A := by rw [rx_at h]; exact List.getElem_mem h
theorem mem_rx {A : List (List Int)} {p : List Int} (h : p ∈ A) : ∃ i, i < A.length ∧ rx A i = p := by
  obtain ⟨i, hi, e⟩ := List.mem_iff_getElem.1 h
  exact ⟨i, hi, by rw [rx_at hi, e]⟩
theorem rx_inj {A : List (List Int)} (h : A.Nodup) {i j : Nat} (hi : i < A.length) (hj : j < A.length) (e : rx A i = rx A j) : i = j := by
  rw [rx_at hi, rx_at hj] at e
  exact (List.getElem_inj h).1 e
theorem TInv.close {A S : List (List Int)} (h : TInv A S) : ∀ (n : Nat) (s p : List Int), s.length ≤ n → s ∈ A → p <+: s → p ∈ A
  | 0, s, p, hn, hs, hp => by
    obtain rfl : s = [] := List.eq_nil_of_length_eq_zero (by omega)
    rw [List.prefix_nil.1 hp]; exact hs
  | n + 1, s, p, hn, hs, hp => by
    by_cases e : p = s
    · rw [e]; exact hs
    · have hne : s ≠ [] := by rintro rfl; exact e (List.prefix_nil.1 hp)
      refine TInv.close h n s.dropLast p (by rw [List.length_dropLast]; omega) (h.pre s hs hne) ?_
      obtain ⟨t, rfl⟩ := hp
      have ht : t ≠ [] := by rintro rfl; simp at e
      rw [List.dropLast_append_of_ne_nil ht]
      exact List.prefix_append _ _
theorem TInv.root_mem {A S : List (List Int)} (h : TInv A S) : [] ∈ A := by have := rx_memT h.pos; rwa [h.root] at this
/-- a beginning that is no node begins no word -/
theorem TInv.none {A S : List (List Int)} (h : TInv A S) {p : List Int} (hp : p ∉ A) : inS S p = false ∧ cnt S p = 0 := by
  refine ⟨by unfold inS; simpa using fun g => hp (h.sub p g), ?_⟩
  unfold cnt
  rw [List.countP_eq_zero]
  intro s hs
  rw [decide_eq_true_eq]
  exact fun g => hp (h.close _ s p (Nat.le_refl _) (h.sub s hs) g)
/-- a node's kid by its character: there, or nowhere -/
theorem TInv.kid {A S : List (List Int)} (h : TInv A S) {i : Nat} {c : Int} (hp : rx A i ++ [c] ∈ A) : ∃ y ∈ kidsT A i, keyT (rx A y) = c ∧ rx A y = rx A i ++ [c] ∧ y < A.length := by
  obtain ⟨y, hy, e⟩ := mem_rx hp
  exact ⟨y, mem_kidsT.2 ⟨hy, by rw [e, keyT_snoc]⟩, by rw [e, keyT_snoc], e, hy⟩
theorem TInv.kidNo {A : List (List Int)} {i : Nat} {c : Int} (hp : rx A i ++ [c] ∉ A) : ∀ y ∈ kidsT A i, keyT (rx A y) ≠ c := by
  intro y hy e
  obtain ⟨g1, g2⟩ := mem_kidsT.1 hy
  rw [e] at g2
  exact hp (g2 ▸ rx_memT g1)
theorem TInv.one : TInv [[]] [] := ⟨by simp, rfl, by simp, fun p hp => by simp at hp; subst hp; simp, fun s hs => (by cases hs), fun p hp => by simp at hp; subst hp; simp⟩
theorem TInv.node {A S : List (List Int)} (h : TInv A S) {i : Nat} {c : Int} (hi : i < A.length) (h24 : (rx A i).length < 24) (hp : rx A i ++ [c] ∉ A) : TInv (A ++ [rx A i ++ [c]]) S := by
  refine ⟨by simp, by rw [rx_old h.pos]; exact h.root, ?_, ?_, fun s hs => by simp [h.sub s hs], fun q hq => ?_⟩
  · rw [List.nodup_append]
    exact ⟨h.nodup, by simp, fun a ha b hb => by rw [List.mem_singleton] at hb; subst hb; rintro rfl; exact hp ha⟩
  · intro q hq hq0
    rw [List.mem_append, List.mem_singleton] at hq
    rcases hq with hq | rfl
    · simp [h.pre q hq hq0]
    · rw [List.dropLast_concat]; simp [rx_memT hi]
  · rw [List.mem_append, List.mem_singleton] at hq
    rcases hq with hq | rfl
    · exact h.short q hq
    · rw [List.length_append, List.length_singleton]; omega
theorem TInv.word {A S : List (List Int)} (h : TInv A S) {u : List Int} (hu : u ∈ A) : TInv A (insT S u) :=
  ⟨h.pos, h.root, h.nodup, h.pre, fun s hs => (insT_mem.1 hs).elim (h.sub s) fun e => e ▸ hu, h.short⟩
theorem kidsT_last {A S : List (List Int)} (h : TInv A S) {p : List Int} (hp : p ∉ A) (hne : p ≠ []) : kidsT (A ++ [p]) A.length = [] := by
  unfold kidsT
  refine List.filter_eq_nil_iff.2 fun y hy => ?_
  rw [List.length_append, List.length_singleton, List.mem_range] at hy
  rw [rx_new, under_iff]
  intro e
  by_cases e2 : y = A.length
  · subst e2
    rw [rx_new] at e
    have := congrArg List.length e
    simp at this
  · rw [rx_old (by omega)] at e
    have hm := rx_memT (A := A) (i := y) (by omega)
    have := h.pre _ hm (by rw [e]; simp)
    rw [e, List.dropLast_concat] at this
    exact hp this

end Go.Proofs.Ytmipnikhgihcpaa
