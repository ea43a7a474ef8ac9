/- Contract of (*trie.Trie).order: the characters that go on, gathered. -/
import Derived.Test.YtmipnikhgihcpaaTrie5
import Derived.Test.YtmipnikhgihcpaaNear7
namespace Go.Proofs.Ytmipnikhgihcpaa
open Go.RowKit
set_option linter.unusedVariables false
set_option linter.unusedSimpArgs false

def leI (x y : Int) : Bool := decide (x ≤ y)
def sortI (l : List Int) : List Int := l.mergeSort leI
theorem leI_trans (x y z : Int) (h1 : leI x y = true) (h2 : leI y z = true) : leI x z = true := by
  unfold leI at *
  simp only [decide_eq_true_eq] at *
  omega
theorem leI_total (x y : Int) : (leI x y || leI y x) = true := by
  unfold leI
  rw [Bool.or_eq_true, decide_eq_true_eq, decide_eq_true_eq]; omega
theorem sortI_perm {l m : List Int} (h : l.Perm m) : sortI l = sortI m := by
  refine List.Perm.eq_of_pairwise (le := fun x y => leI x y = true) ?_ (List.pairwise_mergeSort leI_trans leI_total l) (List.pairwise_mergeSort leI_trans leI_total m) (((List.mergeSort_perm l _).trans h).trans (List.mergeSort_perm m _).symm)
  intro x y _ _ h1 h2
  unfold leI at *
  simp only [decide_eq_true_eq] at *
  omega
theorem sortI_len (l : List Int) : (sortI l).length = l.length := (List.mergeSort_perm l _).length_eq
def keysT (A : List (List Int)) (x : Nat) : List Int := (kidsT A x).map fun y => keyT (rx A y)
def ordT (A : List (List Int)) (x : Nat) : List Int := sortI (keysT A x)
theorem kidsT_len (A : List (List Int)) (x : Nat) : (kidsT A x).length ≤ A.length := by
  have := List.length_filter_le (fun y => under (rx A x) (rx A y)) (List.range A.length)
  rwa [List.length_range] at this
/-- the places seen: those of the characters gathered -/
def SeenT (A : List (List Int)) (x : Nat) (seen : Array Nat) (xs : List Int) : Prop :=
  ∃ q : List Nat, q.Nodup ∧ (∀ i, i ∈ q ↔ i ∈ seen) ∧ (∀ i ∈ q, i < (kidsT A x).length) ∧ xs = q.map fun i => (keysT A x)[i]?.getD 0
theorem SeenT.nil (A : List (List Int)) (x : Nat) : SeenT A x #[] [] := ⟨[], List.nodup_nil, fun i => by simp, fun i hi => by simp at hi, rfl⟩
theorem SeenT.push {A : List (List Int)} {x : Nat} {seen : Array Nat} {xs : List Int} (h : SeenT A x seen xs) {i y : Nat} (hy : (kidsT A x)[i]? = some y) (hn : i ∉ seen) : SeenT A x (seen.push i) (xs ++ [keyT (rx A y)]) := by
  obtain ⟨q, h1, h2, h3, rfl⟩ := h
  refine ⟨q ++ [i], ?_, fun j => ?_, fun j hj => ?_, ?_⟩
  · rw [List.nodup_append]
    exact ⟨h1, by simp, fun a ha b hb => by rw [List.mem_singleton] at hb; subst hb; rintro rfl; exact hn ((h2 a).1 ha)⟩
  · rw [List.mem_append, List.mem_singleton, Array.mem_push, h2]
  · rw [List.mem_append, List.mem_singleton] at hj
    rcases hj with hj | rfl
    · exact h3 j hj
    · exact (List.getElem?_eq_some_iff.1 hy).1
  · rw [List.map_append, List.map_cons, List.map_nil]
    congr 2
    unfold keysT
    rw [List.getElem?_map, hy]; rfl
theorem SeenT.len {A : List (List Int)} {x : Nat} {seen : Array Nat} {xs : List Int} (h : SeenT A x seen xs) : xs.length ≤ A.length := by
  obtain ⟨q, h1, h2, h3, rfl⟩ := h
  rw [List.length_map]
  exact Nat.le_trans (nodup_len _ q h1 h3) (kidsT_len A x)
theorem SeenT.all {A : List (List Int)} {x : Nat} {seen : Array Nat} {xs : List Int} (h : SeenT A x seen xs) (ha : ∀ i, i < (kidsT A x).length → i ∈ seen) : sortI xs = ordT A x := by
  obtain ⟨q, h1, h2, h3, rfl⟩ := h
  refine sortI_perm ?_
  have hp : q.Perm (List.range (kidsT A x).length) := (List.perm_ext_iff_of_nodup h1 List.nodup_range).2 fun i => by
    rw [List.mem_range, h2]
    exact ⟨fun g => h3 i ((h2 i).2 g), ha i⟩
  refine (hp.map _).trans (List.Perm.of_eq ?_)
  refine List.ext_getElem (by simp [keysT]) fun i g1 g2 => ?_
  rw [List.getElem_map, List.getElem_range, List.getElem?_eq_getElem g2]; rfl
theorem Own.grownI {base : Nat} {w w' : World} {v : Value} {es : List Int} {r b s c : Nat} {seen : Array Nat} (h : Own 3 base w v es) (hg : w.grownBy w' (some r)) (hI : IterB w r b s seen c) : Own 3 base w' v es := by
  refine World.ownsRow.kept h hg (.inr fun e => ?_)
  rcases h.2 with ⟨rfl, _⟩ | ⟨g, cap, cur, rfl, hb', hgg, rest⟩
  · simp [Value.ownBlock] at e
  · simp only [Value.ownBlock, Option.some.injEq] at e
    subst e
    rw [show w.heap[g]? = _ from hI] at hgg
    cases hgg

/-- what a round of the loop keeps: all below n0, and every row of numbers -/
structure IKeep (n0 : Nat) (w w' : World) : Prop where
  below : Below n0 w w'
  ints : ∀ (k : Nat) (cs : Array Value) (fr : Nat × Nat), w.heap[k]? = some (Obj.cells cs 3 fr) → w'.heap[k]? = some (Obj.cells cs 3 fr)
theorem IKeep.refl (n0 : Nat) (w : World) : IKeep n0 w w := ⟨Below.refl _ _, fun _ _ _ h => h⟩
theorem IKeep.trans {n0 : Nat} {a b c : World} (h : IKeep n0 a b) (g : IKeep n0 b c) : IKeep n0 a c := ⟨h.below.trans g.below, fun k cs fr e => g.ints k cs fr (h.ints k cs fr e)⟩
theorem IKeep.of {n0 : Nat} {w w' : World} (hb : Below w.heap.size w w') (hB : n0 ≤ w.heap.size) : IKeep n0 w w' := ⟨hb.mono hB, fun k cs fr e => (hb.block k (Array.getElem?_eq_some_iff.1 e).1).trans e⟩
/-- numbers that such a round keeps -/
def IR (n0 : Nat) (w : World) (a : Option Addr) (xs : List Int) : Prop := Ints w a xs ∧ (xs ≠ [] → ∀ ad, a = some ad → ad.block < n0 ∨ ∃ (cs : Array Value) (fr : Nat × Nat), w.heap[ad.block]? = some (Obj.cells cs 3 fr))
theorem IR.keep {n0 : Nat} {w w' : World} {a : Option Addr} {xs : List Int} (h : IR n0 w a xs) (hk : IKeep n0 w w') : IR n0 w' a xs := by
  refine ⟨?_, fun hne ad e => ?_⟩
  · by_cases hx : xs = []
    · exact .inl hx
    rcases h.1 with rfl | ⟨b, o, rfl, hc⟩
    · exact .inl rfl
    · refine .inr ⟨b, o, rfl, fun i hi => ?_⟩
      rcases h.2 hx _ rfl with hb | ⟨cs, fr, hcs⟩
      · rw [hk.below.cell (p := ⟨b, o + i, none⟩) hb]; exact hc i hi
      · rw [World.cell?_of_block (w := w) (w' := w') (a := ⟨b, o + i, none⟩) ((hk.ints b cs fr hcs).trans hcs.symm)]; exact hc i hi
  · rcases h.2 hne ad e with hb | ⟨cs, fr, hcs⟩
    · exact .inl hb
    · exact .inr ⟨cs, fr, hk.ints _ cs fr hcs⟩
theorem IR.below {n0 : Nat} {w w' : World} {a : Option Addr} {xs : List Int} (h : IR n0 w a xs) (hb : Below w.heap.size w w') (hB : n0 ≤ w.heap.size) : IR n0 w' a xs := h.keep (IKeep.of hb hB)
theorem Own.ir {n0 base : Nat} {w : World} {a : Option Addr} {n c : Nat} {xs : List Int} (h : Own 3 base w (.slice a n c) xs) : IR n0 w a xs := by
  refine ⟨h.get.2.1, fun _ ad e => .inr ?_⟩
  rcases h.2 with ⟨hv, _⟩ | ⟨g, cap, cur, hv, hb', hgg, rest⟩
  · simp at hv
    rw [hv.1] at e; cases e
  · simp only [Value.slice.injEq] at hv
    rw [hv.1] at e
    cases e
    exact ⟨_, _, hgg⟩
theorem Ints.ir {w : World} {a : Option Addr} {xs : List Int} (h : Ints w a xs) : IR w.heap.size w a xs := by
  refine ⟨h, fun hne ad e => .inl ?_⟩
  rcases h with h | ⟨b, o, rfl, hc⟩
  · exact absurd h hne
  · cases e
    have := cell_lt (hc 0 (List.length_pos_iff.2 hne))
    exact this

def OrdPost (n0 base : Nat) (ks : List Int) (w : World) (e : Ending) (w' : World) : Prop := ∃ a c, e = .returned (.slice a ks.length c) ∧ IR n0 w' a ks ∧ ks.length ≤ c ∧ Below base w w'
end Go.Proofs.Ytmipnikhgihcpaa
