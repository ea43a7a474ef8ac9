/- TrieSays, plain: a word put into the words in their order; what More answers is one. -/
import Derived.Test.YtmipnikhgihcpaaTrieD
import Derived.Test.YtmipnikhgihcpaaTrieG
import Derived.Test.YtmipnikhgihcpaaTrieH
import Derived.Test.YtmipnikhgihcpaaTrie4
namespace Go.Proofs.Ytmipnikhgihcpaa
open Go.RowKit
set_option linter.unusedVariables false
set_option linter.unusedSimpArgs false

theorem sortL_nodup {S : List (List Int)} (h : S.Nodup) : (sortL S).Nodup := (List.mergeSort_perm S leL).nodup_iff.2 h
theorem sortL_mem {S : List (List Int)} {s : List Int} : s ∈ sortL S ↔ s ∈ S := List.mem_mergeSort
theorem sortL_len (S : List (List Int)) : (sortL S).length = S.length := List.length_mergeSort _
theorem rx_inj2 {A : List (List Int)} {k : Nat} {s : List Int} (h : s ∈ A.take k) : ∃ j, j < k ∧ j < A.length ∧ rx A j = s := by
  obtain ⟨j, hj, e⟩ := mem_rx h
  rw [List.length_take] at hj
  exact ⟨j, by omega, by omega, by rw [← e, rx_take (by omega)]⟩
theorem sorted_rx {L : List (List Int)} (h : L.Pairwise fun x y => leL x y = true) {i j : Nat} (hij : i ≤ j) (hj : j < L.length) : leL (rx L i) (rx L j) = true := by
  rcases Nat.lt_or_eq_of_le hij with g | rfl
  · rw [rx_at (by omega), rx_at hj]
    exact List.pairwise_iff_getElem.1 h i j (by omega) hj g
  · exact leL_refl _
/-- the word is there -/
theorem put_there {S : List (List Int)} {w : List Int} {k : Nat} (hk : k < (sortL S).length) (he : rx (sortL S) k = w) : sortL (insT S w) = sortL S := by
  have hm : w ∈ S := by rw [← sortL_mem, ← he]; exact rx_memT hk
  unfold insT
  rw [if_pos hm]
/-- .. and where it is not -/
theorem put_new {S : List (List Int)} {w : List Int} {k : Nat} (hk : k ≤ (sortL S).length) (hlt : ∀ j, j < k → cmpL (rx (sortL S) j) w < 0) (hend : k < (sortL S).length → ¬ cmpL (rx (sortL S) k) w < 0 ∧ rx (sortL S) k ≠ w) :
    w ∉ S ∧ sortL (insT S w) = (sortL S).take k ++ w :: (sortL S).drop k := by
  have hs := sortL_sorted S
  have hless : ∀ s ∈ (sortL S).take k, leL s w = true ∧ s ≠ w := by
    intro s h
    obtain ⟨j, h1, h2, rfl⟩ := rx_inj2 h
    have := (cmpL_neg _ _).1 (hlt j h1)
    have ht := leL_total (rx (sortL S) j) w
    rw [this, Bool.or_false] at ht
    refine ⟨ht, fun e => ?_⟩
    rw [e, leL_refl] at this; cases this
  have hmore : ∀ s ∈ (sortL S).drop k, leL w s = true ∧ s ≠ w := by
    intro s h
    obtain ⟨j, hj, e⟩ := mem_rx h
    rw [rx_drop] at e
    rw [List.length_drop] at hj
    obtain ⟨g1, g2⟩ := hend (by omega)
    have g3 : leL w (rx (sortL S) k) = true := by
      by_cases h : leL w (rx (sortL S) k) = true
      · exact h
      · exact absurd ((cmpL_neg _ _).2 (by simpa using h)) g1
    have g4 := sorted_rx hs (i := k) (j := k + j) (by omega) (by omega)
    rw [e] at g4
    refine ⟨leL_trans _ _ _ g3 g4, fun e2 => ?_⟩
    subst e2
    exact g2 (leL_anti _ _ g4 g3)
  have hno : w ∉ S := by
    rw [← sortL_mem, ← List.take_append_drop k (sortL S), List.mem_append]
    rintro (h | h)
    · exact (hless w h).2 rfl
    · exact (hmore w h).2 rfl
  refine ⟨hno, ?_⟩
  refine sorted_eq (sortL_sorted _) ?_ ?_
  · rw [List.pairwise_append, List.pairwise_cons]
    refine ⟨hs.take, ⟨fun s h => (hmore s h).1, hs.drop⟩, fun s h t g => ?_⟩
    rcases List.mem_cons.1 g with rfl | g
    · exact (hless s h).1
    · exact leL_trans _ _ _ (hless s h).1 (hmore t g).1
  · unfold insT
    rw [if_neg hno]
    refine (List.mergeSort_perm _ _).trans ?_
    refine ((List.perm_append_comm (l₁ := S) (l₂ := [w]))).trans ?_
    refine List.Perm.trans ?_ List.perm_middle.symm
    rw [List.take_append_drop]
    exact List.Perm.cons _ (List.mergeSort_perm S leL).symm

/-- all words that begin with p go on with out -/
theorem more_all {A S : List (List Int)} {p out : List Int} (hI : TInv A S) (hT : MoreT A S p out) : ∀ i, i ≤ out.length → ∀ s ∈ S, p <+: s → p ++ out.take i <+: s
  | 0, _, s, hs, hp => by simpa using hp
  | i + 1, hi, s, hs, hp => by
    have ih := more_all hI hT i (by omega) s hs hp
    obtain ⟨hno, z, hz, hr, hone⟩ := hT.1 i (by omega)
    obtain ⟨y, hy, hry, -⟩ := hT.2
    obtain ⟨t, rfl⟩ := ih
    cases t with
    | nil =>
      rw [List.append_nil] at hs
      unfold inS at hno
      simp at hno
      exact absurd hs hno
    | cons c t =>
      have h1 : rx A z ++ [c] ∈ A := by
        refine hI.close _ _ _ (Nat.le_refl _) (hI.sub _ hs) ⟨t, ?_⟩
        rw [hr]; simp
      have h2 : rx A z ++ [ix out i] ∈ A := by
        refine hI.close _ _ _ (Nat.le_refl _) (rx_memT hy) ?_
        rw [hry, hr]
        refine ⟨out.drop (i + 1), ?_⟩
        rw [List.append_assoc, List.append_assoc]
        congr 1
        conv => rhs; rw [← List.take_append_drop i out, List.drop_eq_getElem_cons (by omega)]
        rw [ix_eq (by omega)]; simp
      obtain ⟨y1, m1, k1, -, -⟩ := hI.kid h1
      obtain ⟨y2, m2, k2, -, -⟩ := hI.kid h2
      obtain ⟨q, hq⟩ := List.length_eq_one_iff.1 hone
      rw [hq, List.mem_singleton] at m1 m2
      subst m1 m2
      have : c = ix out i := k1.symm.trans k2
      subst this
      rw [List.take_succ_eq_append_getElem (by omega), ← ix_eq (by omega)]
      refine ⟨t, ?_⟩
      simp
theorem begS_pre {S : List (List Int)} {p : List Int} {i : Nat} (h : i < (begS S p).length) : rx (begS S p) i ∈ S ∧ p <+: rx (begS S p) i := mem_begS.1 (rx_memT h)
theorem kids_two {A : List (List Int)} {y : Nat} (hA : A.Nodup) (h : 2 ≤ (kidsT A y).length) : ∃ a b, a ≠ b ∧ rx A y ++ [a] ∈ A ∧ rx A y ++ [b] ∈ A := by
  obtain ⟨m1, e1⟩ := mem_kidsT.1 (List.getElem_mem (show 0 < (kidsT A y).length by omega))
  obtain ⟨m2, e2⟩ := mem_kidsT.1 (List.getElem_mem (show 1 < (kidsT A y).length by omega))
  refine ⟨_, _, fun e => ?_, e1 ▸ rx_memT m1, e2 ▸ rx_memT m2⟩
  rw [e, ← e2] at e1
  have := rx_inj hA m1 m2 e1
  have := (List.pairwise_iff_getElem.1 (List.nodup_iff_pairwise_ne.1 (kidsT_nodup A y))) 0 1 (by omega) (by omega) (by omega)
  omega
theorem pre_ix {q s : List Int} {j : Nat} (h : q <+: s) (hj : j < q.length) : ix s j = ix q j := by
  obtain ⟨t, rfl⟩ := h
  rw [ix_eq (by simp; omega), ix_eq hj, List.getElem_append_left hj]
theorem more_one {A S : List (List Int)} {p out : List Int} {k : Nat} (hI : TInv A S) (hN : ∀ q ∈ A, q = [] ∨ ∃ s ∈ S, q <+: s) (hT : MoreT A S p out) (h0 : 0 < (begS S p).length) (hK : MoreK (begS S p) p.length k) :
    ((rx (begS S p) 0).take k).drop p.length = out := by
  have hall : ∀ i, i < (begS S p).length → p ++ out <+: rx (begS S p) i := by
    intro i hi
    have := more_all hI hT out.length (Nat.le_refl _) _ (begS_pre hi).1 (begS_pre hi).2
    rwa [List.take_length] at this
  obtain ⟨k1, k2, k3, i0, hi0, hp0⟩ := hK
  have hge : p.length + out.length ≤ k := by
    rcases Nat.lt_or_ge k (p.length + out.length) with h | h
    · exfalso
      have g1 := hall i0 hi0
      have g2 := hall 0 h0
      rcases hp0 with h3 | h3
      · have := g1.length_le
        rw [List.length_append] at this; omega
      · exact h3 ((pre_ix g1 (by rw [List.length_append]; omega)).trans (pre_ix g2 (by rw [List.length_append]; omega)).symm)
    · exact h
  have hparts : ∃ i, i < (begS S p).length ∧ parts (begS S p) (p.length + out.length) i := by
    obtain ⟨y, hy, hry, hw⟩ := hT.2
    by_cases hin : p ++ out ∈ S
    · obtain ⟨i, hi, e⟩ := mem_rx (mem_begS.2 ⟨hin, List.prefix_append p out⟩)
      exact ⟨i, hi, .inl (by rw [e, List.length_append]; exact Nat.le_refl _)⟩
    · have hw2 : (kidsT A y).length ≠ 1 := by
        rcases hw with h | h
        · rw [hry] at h; unfold inS at h; simp at h; exact absurd h hin
        · exact h
      have hone : 1 ≤ (kidsT A y).length := by
        obtain ⟨t, ht⟩ := hall 0 h0
        have hs := (begS_pre h0).1
        cases t with
        | nil => rw [List.append_nil] at ht; rw [← ht] at hs; exact absurd hs hin
        | cons c t =>
          have h1 : rx A y ++ [c] ∈ A := hI.close _ _ _ (Nat.le_refl _) (hI.sub _ hs) ⟨t, by rw [hry, ← ht]; simp⟩
          obtain ⟨y1, m1, -⟩ := hI.kid h1
          exact List.length_pos_of_mem m1
      obtain ⟨a, b, hab, ha, hb⟩ := kids_two hI.nodup (y := y) (by omega)
      rw [hry] at ha hb
      have hx : ∀ c, p ++ out ++ [c] ∈ A → ∃ i, i < (begS S p).length ∧ ix (rx (begS S p) i) (p.length + out.length) = c := by
        intro c hc
        rcases hN _ hc with h | ⟨s, hs, hp⟩
        · simp at h
        · obtain ⟨i, hi, e⟩ := mem_rx (mem_begS.2 ⟨hs, ((List.prefix_append p out).trans (List.prefix_append _ _)).trans hp⟩)
          refine ⟨i, hi, ?_⟩
          rw [e, pre_ix hp (by simp), ix_eq (by simp)]
          simp
      obtain ⟨i, hi, ea⟩ := hx a ha
      obtain ⟨j, hj, eb⟩ := hx b hb
      by_cases h : ix (rx (begS S p) 0) (p.length + out.length) = a
      · exact ⟨j, hj, .inr (by rw [eb, h]; exact fun e => hab e.symm)⟩
      · exact ⟨i, hi, .inr (by rw [ea]; exact fun e => h e.symm)⟩
  have hk : k = p.length + out.length := by
    rcases Nat.lt_or_ge (p.length + out.length) k with h | h
    · obtain ⟨i, hi, hp⟩ := hparts
      exact absurd hp (k3 _ (by omega) h i hi)
    · omega
  obtain ⟨t, ht⟩ := hall 0 h0
  rw [← ht, hk, ← List.length_append, List.take_left' rfl, List.drop_left' rfl]

end Go.Proofs.Ytmipnikhgihcpaa
