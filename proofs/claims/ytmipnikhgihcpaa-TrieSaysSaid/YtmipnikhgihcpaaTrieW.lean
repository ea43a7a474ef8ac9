/- TrieSays, plain: the words in their order; those that begin with p, node by node. -/
import Derived.Test.YtmipnikhgihcpaaTrie6
namespace Go.Proofs.Ytmipnikhgihcpaa
open Go.RowKit
set_option linter.unusedVariables false
set_option linter.unusedSimpArgs false

/-- the order of words -/
def leL : List Int → List Int → Bool
  | [], _ => true
  | _ :: _, [] => false
  | a :: x, b :: y => decide (a < b) || (decide (a = b) && leL x y)
theorem leL_refl : ∀ x, leL x x = true
  | [] => rfl
  | a :: x => by simp [leL, leL_refl x]
theorem leL_total : ∀ x y, (leL x y || leL y x) = true
  | [], _ => by simp [leL]
  | a :: x, [] => by simp [leL]
  | a :: x, b :: y => by
    have h := leL_total x y
    simp only [leL, Bool.or_eq_true, Bool.and_eq_true, decide_eq_true_eq] at *
    rcases Int.lt_trichotomy a b with g | g | g
    · exact .inl (.inl g)
    · rcases h with h | h
      · exact .inl (.inr ⟨g, h⟩)
      · exact .inr (.inr ⟨g.symm, h⟩)
    · exact .inr (.inl g)
theorem leL_trans : ∀ x y z, leL x y = true → leL y z = true → leL x z = true
  | [], _, _, _, _ => by simp [leL]
  | a :: x, [], _, h, _ => by simp [leL] at h
  | a :: x, b :: y, [], _, h => by simp [leL] at h
  | a :: x, b :: y, c :: z, h, g => by
    have ih := leL_trans x y z
    simp only [leL, Bool.or_eq_true, Bool.and_eq_true, decide_eq_true_eq] at *
    rcases h with h | ⟨rfl, h⟩
    · rcases g with g | ⟨rfl, g⟩
      · exact .inl (by omega)
      · exact .inl h
    · rcases g with g | ⟨rfl, g⟩
      · exact .inl g
      · exact .inr ⟨rfl, ih h g⟩
theorem leL_anti : ∀ x y, leL x y = true → leL y x = true → x = y
  | [], [], _, _ => rfl
  | [], b :: y, _, h => by simp [leL] at h
  | a :: x, [], h, _ => by simp [leL] at h
  | a :: x, b :: y, h, g => by
    have ih := leL_anti x y
    simp only [leL, Bool.or_eq_true, Bool.and_eq_true, decide_eq_true_eq] at *
    rcases h with h | ⟨rfl, h⟩
    · rcases g with g | ⟨rfl, g⟩
      · omega
      · omega
    · rcases g with g | ⟨-, g⟩
      · omega
      · rw [ih h g]
theorem leL_app (p x y : List Int) : leL (p ++ x) (p ++ y) = leL x y := by
  induction p with
  | nil => rfl
  | cons a p ih => simp [leL, ih]
def sortL (S : List (List Int)) : List (List Int) := S.mergeSort leL
def begS (S : List (List Int)) (p : List Int) : List (List Int) := (sortL S).filter fun s => decide (p <+: s)
theorem sorted_eq {l m : List (List Int)} (h1 : l.Pairwise fun x y => leL x y = true) (h2 : m.Pairwise fun x y => leL x y = true) (hp : l.Perm m) : l = m :=
  List.Perm.eq_of_pairwise (le := fun x y => leL x y = true) (fun x y _ _ => leL_anti x y) h1 h2 hp
theorem sortL_sorted (S : List (List Int)) : (sortL S).Pairwise fun x y => leL x y = true := List.pairwise_mergeSort leL_trans leL_total S
theorem begS_sorted (S : List (List Int)) (p : List Int) : (begS S p).Pairwise fun x y => leL x y = true := (sortL_sorted S).filter _
theorem mem_begS {S : List (List Int)} {p s : List Int} : s ∈ begS S p ↔ s ∈ S ∧ p <+: s := by
  unfold begS sortL
  rw [List.mem_filter, List.mem_mergeSort, decide_eq_true_eq]
theorem begS_nodup {S : List (List Int)} (h : S.Nodup) (p : List Int) : (begS S p).Nodup := List.Nodup.sublist List.filter_sublist ((List.mergeSort_perm S leL).nodup_iff.2 h)
theorem begS_len (S : List (List Int)) (p : List Int) : (begS S p).length = cnt S p := by
  unfold begS cnt sortL
  rw [← List.countP_eq_length_filter]
  exact (List.mergeSort_perm S leL).countP_eq _
theorem mem_ordT {A : List (List Int)} {x : Nat} {c : Int} : c ∈ ordT A x ↔ ∃ y ∈ kidsT A x, keyT (rx A y) = c := by
  unfold ordT sortI keysT
  rw [List.mem_mergeSort, List.mem_map]
theorem ordT_lt {A : List (List Int)} (hA : A.Nodup) (x : Nat) : (ordT A x).Pairwise fun c d => c < d := by
  have h1 : (ordT A x).Pairwise fun c d => leI c d = true := List.pairwise_mergeSort leI_trans leI_total _
  have h2 : (ordT A x).Nodup := by
    refine (List.mergeSort_perm _ leI).nodup_iff.2 ?_
    unfold keysT
    rw [List.nodup_iff_pairwise_ne, List.pairwise_map]
    refine List.Pairwise.imp_of_mem ?_ (List.nodup_iff_pairwise_ne.1 (kidsT_nodup A x))
    intro a b ha hb hne e
    obtain ⟨g1, g2⟩ := mem_kidsT.1 ha
    obtain ⟨f1, f2⟩ := mem_kidsT.1 hb
    rw [e, ← f2] at g2
    exact hne (rx_inj hA g1 f1 g2)
  refine (h1.and (List.nodup_iff_pairwise_ne.1 h2)).imp ?_
  rintro a b ⟨h, g⟩
  unfold leI at h
  rw [decide_eq_true_eq] at h
  omega
/-- what begins with p: p itself, and what goes on, by its character -/
theorem begS_node {A S : List (List Int)} (hI : TInv A S) (hS : S.Nodup) {x : Nat} (hx : x < A.length) : begS S (rx A x) = (if inS S (rx A x) then [rx A x] else []) ++ (ordT A x).flatMap fun c => begS S (rx A x ++ [c]) := by
  have hsn : ∀ {c : Int} {s : List Int}, s ∈ begS S (rx A x ++ [c]) → ∃ t, s = rx A x ++ c :: t := by
    intro c s h
    obtain ⟨-, t, rfl⟩ := mem_begS.1 h
    exact ⟨t, by simp⟩
  have hlt : ∀ {c d : Int} {s t : List Int}, c < d → s ∈ begS S (rx A x ++ [c]) → t ∈ begS S (rx A x ++ [d]) → leL s t = true ∧ s ≠ t := by
    intro c d s t hcd hs ht
    obtain ⟨s', rfl⟩ := hsn hs
    obtain ⟨t', rfl⟩ := hsn ht
    refine ⟨by rw [leL_app]; simp [leL, hcd], fun e => ?_⟩
    have := List.append_cancel_left e
    simp at this; omega
  have hpair : ∀ R : List Int → List Int → Prop, (∀ c, (begS S (rx A x ++ [c])).Pairwise R) → (∀ c d, c < d → ∀ s ∈ begS S (rx A x ++ [c]), ∀ t ∈ begS S (rx A x ++ [d]), R s t) → ((ordT A x).flatMap fun c => begS S (rx A x ++ [c])).Pairwise R := by
    intro R h1 h2
    rw [List.pairwise_flatMap]
    exact ⟨fun c _ => h1 c, (ordT_lt hI.nodup x).imp fun {c d} h => fun s hs t ht => h2 c d h s hs t ht⟩
  have hhead : ∀ s ∈ (if inS S (rx A x) then [rx A x] else []), s = rx A x ∧ s ∈ S := by
    intro s hs
    by_cases h : inS S (rx A x) = true
    · rw [if_pos h, List.mem_singleton] at hs
      subst hs
      exact ⟨rfl, by unfold inS at h; simpa using h⟩
    · rw [if_neg h] at hs; cases hs
  have hcross : ∀ s ∈ (if inS S (rx A x) then [rx A x] else []), ∀ t ∈ ((ordT A x).flatMap fun c => begS S (rx A x ++ [c])), leL s t = true ∧ s ≠ t := by
    intro s hs t ht
    obtain ⟨rfl, -⟩ := hhead s hs
    obtain ⟨c, -, ht⟩ := List.mem_flatMap.1 ht
    obtain ⟨t', rfl⟩ := hsn ht
    refine ⟨?_, fun e => ?_⟩
    · have := leL_app (rx A x) [] (c :: t')
      rw [List.append_nil] at this
      rw [this]; rfl
    · have := congrArg List.length e
      simp at this
  refine sorted_eq (begS_sorted S _) ?_ ?_
  · rw [List.pairwise_append]
    refine ⟨?_, hpair _ (fun c => begS_sorted S _) (fun c d h s hs t ht => (hlt h hs ht).1), fun s hs t ht => (hcross s hs t ht).1⟩
    by_cases h : inS S (rx A x) = true
    · rw [if_pos h]; simp
    · rw [if_neg h]; simp
  · refine (List.perm_ext_iff_of_nodup (begS_nodup hS _) ?_).2 fun s => ?_
    · rw [List.nodup_append]
      refine ⟨?_, ?_, fun s hs t ht => (hcross s hs t ht).2⟩
      · by_cases h : inS S (rx A x) = true
        · rw [if_pos h]; simp
        · rw [if_neg h]; simp
      · rw [List.nodup_iff_pairwise_ne]
        exact hpair _ (fun c => List.nodup_iff_pairwise_ne.1 (begS_nodup hS _)) (fun c d h s hs t ht => (hlt h hs ht).2)
    · rw [List.mem_append, mem_begS]
      constructor
      · rintro ⟨hs, t, rfl⟩
        cases t with
        | nil =>
          rw [List.append_nil] at hs ⊢
          left
          rw [if_pos (by unfold inS; simpa using hs)]; simp
        | cons c t =>
          right
          rw [List.mem_flatMap]
          have hc : rx A x ++ [c] ∈ A := hI.close _ _ _ (Nat.le_refl _) (hI.sub _ hs) ⟨t, by simp⟩
          obtain ⟨y, hy, hk, -, -⟩ := hI.kid hc
          exact ⟨c, mem_ordT.2 ⟨y, hy, hk⟩, mem_begS.2 ⟨hs, t, by simp⟩⟩
      · rintro (h | h)
        · obtain ⟨rfl, hs⟩ := hhead s h
          exact ⟨hs, List.prefix_refl _⟩
        · obtain ⟨c, -, h⟩ := List.mem_flatMap.1 h
          obtain ⟨hs, g⟩ := mem_begS.1 h
          exact ⟨hs, (List.prefix_append _ _).trans g⟩

end Go.Proofs.Ytmipnikhgihcpaa
