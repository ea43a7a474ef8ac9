/- Contract of (*near.Tree).put: the tree in memory. -/
import Derived.Test.YtmipnikhgihcpaaNearT
import Derived.Test.YtmipnikhgihcpaaNear1
import Derived.Test.YtmipnikhgihcpaaMapP
namespace Go.Proofs.Ytmipnikhgihcpaa
open Go.RowKit
set_option linter.unusedVariables false
set_option linter.unusedSimpArgs false

/-- the entries of a node's map -/
def kidE (A : List Nd) (B : Nat → Nat) (i : Nat) : Array MapEntry := ((kidsOf A i).zipIdx.map fun p => (⟨.int .i64 ((nd A p.1).key : Int), .pointer (some ⟨B p.1, 0, none⟩), p.2⟩ : MapEntry)).toArray
theorem kidE_mem {A : List Nd} {B : Nat → Nat} {i : Nat} {e : MapEntry} : e ∈ (kidE A B i).toList ↔ ∃ q x, (kidsOf A i)[q]? = some x ∧ e = ⟨.int .i64 ((nd A x).key : Int), .pointer (some ⟨B x, 0, none⟩), q⟩ := by
  unfold kidE
  simp only [List.mem_map, Prod.exists, List.mem_zipIdx_iff_getElem?]
  constructor
  · rintro ⟨x, q, h, rfl⟩; exact ⟨q, x, h, rfl⟩
  · rintro ⟨q, x, h, rfl⟩; exact ⟨x, q, h, rfl⟩
theorem kidE_born (A : List Nd) (B : Nat → Nat) (i : Nat) : (kidE A B i).toList.map (·.born) = List.range (kidsOf A i).length := by
  unfold kidE
  simp only [List.map_map]
  rw [show ((fun x : MapEntry => x.born) ∘ fun p : Nat × Nat => (⟨.int .i64 ((nd A p.1).key : Int), .pointer (some ⟨B p.1, 0, none⟩), p.2⟩ : MapEntry)) = Prod.snd from rfl]
  rw [List.zipIdx_map_snd, List.range_eq_range']
theorem kidE_lt {A : List Nd} {B : Nat → Nat} {i : Nat} : ∀ e ∈ (kidE A B i).toList, e.born < (kidsOf A i).length := by
  intro e he
  have : e.born ∈ (kidE A B i).toList.map (·.born) := List.mem_map.2 ⟨e, he, rfl⟩
  rw [kidE_born] at this
  exact List.mem_range.1 this
theorem kidE_nodup (A : List Nd) (B : Nat → Nat) (i : Nat) : ((kidE A B i).toList.map (·.born)).Nodup := by rw [kidE_born]; exact List.nodup_range
theorem kidE_keys {A : List Nd} (hI : Inv A) (B : Nat → Nat) (i : Nat) : intKeys (kidE A B i).toList := by
  refine ⟨fun e he => ?_, ?_⟩
  · obtain ⟨q, x, -, rfl⟩ := kidE_mem.1 he; exact ⟨_, rfl⟩
  · unfold kidE
    simp only [List.pairwise_map]
    rw [List.pairwise_iff_getElem]
    intro a b ha hb hab
    simp only [List.getElem_zipIdx]
    have ha' : a < (kidsOf A i).length := by simpa using ha
    have hb' : b < (kidsOf A i).length := by simpa using hb
    obtain ⟨g1, g2, g3⟩ := mem_kids.1 (List.getElem_mem ha')
    obtain ⟨f1, f2, f3⟩ := mem_kids.1 (List.getElem_mem hb')
    intro e
    simp only [Value.int.injEq, true_and, Int.natCast_inj] at e
    have := hI.uni _ _ g2 f2 g1 f1 (g3.trans f3.symm) e
    have := (List.pairwise_iff_getElem.1 (kids_nodup A i)) a b ha' hb' hab
    omega
theorem kidE_none {A : List Nd} {B : Nat → Nat} {i : Nat} {d : Nat} (h : ∀ c ∈ kidsOf A i, (nd A c).key ≠ d) : noKey (d : Int) (kidE A B i).toList := by
  intro e he
  obtain ⟨q, x, hq, rfl⟩ := kidE_mem.1 he
  exact ⟨_, rfl, fun e => h x (List.mem_of_getElem? hq) (by omega)⟩
theorem kidE_push {A : List Nd} {B B' : Nat → Nat} {i : Nat} {w : List Int} {d : Nat} (h1 : 1 ≤ A.length) (hB : ∀ x, x < A.length → B' x = B x) :
    kidE (A ++ [⟨w, i, d⟩]) B' i = (kidE A B i).push ⟨.int .i64 (d : Int), .pointer (some ⟨B' A.length, 0, none⟩), (kidsOf A i).length⟩ := by
  apply Array.toList_inj.1
  unfold kidE
  rw [kids_new i h1, if_pos rfl]
  simp only [List.push_toArray, List.zipIdx_append, List.map_append, List.zipIdx_singleton, List.map_singleton, nd_new, Nat.zero_add]
  congr 1
  refine List.map_congr_left fun p hp => ?_
  have hx : p.1 < A.length := (mem_kids.1 (List.mem_of_getElem? (List.mem_zipIdx_iff_getElem?.1 hp))).1
  rw [nd_old hx, hB _ hx]
theorem kidE_same {A : List Nd} {B B' : Nat → Nat} {i j : Nat} {w : List Int} {d : Nat} (h1 : 1 ≤ A.length) (hB : ∀ x, x < A.length → B' x = B x) (hne : i ≠ j) :
    kidE (A ++ [⟨w, i, d⟩]) B' j = kidE A B j ∧ kidsOf (A ++ [⟨w, i, d⟩]) j = kidsOf A j := by
  have e : kidsOf (A ++ [(⟨w, i, d⟩ : Nd)]) j = kidsOf A j := by rw [kids_new j h1, if_neg hne, List.append_nil]
  refine ⟨?_, e⟩
  unfold kidE
  rw [e]
  congr 1
  refine List.map_congr_left fun p hp => ?_
  have hx : p.1 < A.length := (mem_kids.1 (List.mem_of_getElem? (List.mem_zipIdx_iff_getElem?.1 hp))).1
  rw [nd_old hx, hB _ hx]
theorem kids_last {A : List Nd} {i : Nat} {w : List Int} {d : Nat} (h1 : 1 ≤ A.length) (hp : ∀ x, 1 ≤ x → x < A.length → (nd A x).par < x) (hi : i < A.length) : kidsOf (A ++ [⟨w, i, d⟩]) A.length = [] := by
  rw [kids_new _ h1, if_neg (show i ≠ A.length by omega), List.append_nil]
  refine List.filter_eq_nil_iff.2 fun x hx => ?_
  rw [List.mem_range] at hx
  rw [decide_eq_true_eq]
  rintro ⟨h2, h3⟩
  have := hp x h2 hx
  omega

theorem Own.neMap {e : TypeId} {base : Nat} {w : World} {v : Value} {xs : List Int} {b c : Nat} {es : Array MapEntry} (h : Own e base w v xs) (hM : MapB w b es c) : some b ≠ v.ownBlock := by
  rcases h.2 with ⟨rfl, _⟩ | ⟨g, cap, cur, rfl, hb', hgg, rest⟩
  · simp [Value.ownBlock]
  · intro e
    simp only [Value.ownBlock, Option.some.injEq] at e
    subst e
    rw [show w.heap[b]? = _ from hM] at hgg
    cases hgg
theorem Own.grownM {e : TypeId} {base : Nat} {w w' : World} {v : Value} {xs : List Int} {b c : Nat} {es : Array MapEntry} (h : Own e base w v xs) (hg : w.grownBy w' (some b)) (hM : MapB w b es c) : Own e base w' v xs :=
  World.ownsRow.kept h hg (.inr fun e => h.neMap hM e.symm)
theorem Blk.neMap {w : World} {B : Nat} {cs : Array Value} {e : TypeId} {b c : Nat} {es : Array MapEntry} (h : Blk w B cs e) (hM : MapB w b es c) : B ≠ b := by
  rintro rfl
  unfold Blk at h; unfold MapB at hM
  rw [h] at hM; cases hM
/-- the tree lies in memory: the nodes' blocks, their maps -/
structure ArH (w : World) (base : Nat) (A : List Nd) (B M : Nat → Nat) : Prop where
  blk : ∀ i, i < A.length → ∃ sv, Blk w (B i) #[sv, .int .i64 (i : Int), .map (some (M i))] 206 ∧ Own 3 base w sv (nd A i).wd
  map : ∀ i, i < A.length → MapB w (M i) (kidE A B i) (kidsOf A i).length
  inj : ∀ i j, i < A.length → j < A.length → M i = M j → i = j
  ge : ∀ i, i < A.length → base ≤ B i ∧ base ≤ M i
theorem ArH.kept {w w' : World} {base : Nat} {A : List Nd} {B M : Nat → Nat} (h : ArH w base A B M) (hb : Below w.heap.size w w') : ArH w' base A B M :=
  ⟨fun i hi => by obtain ⟨sv, h1, h2⟩ := h.blk i hi; exact ⟨sv, h1.below hb h1.lt, h2.kept hb⟩, fun i hi => (h.map i hi).below hb, h.inj, h.ge⟩
def upd (f : Nat → Nat) (n v : Nat) : Nat → Nat := fun x => if x = n then v else f x
theorem upd_old {f : Nat → Nat} {n v x : Nat} (h : x < n) : upd f n v x = f x := by unfold upd; rw [if_neg (by omega)]
theorem upd_new (f : Nat → Nat) (n v : Nat) : upd f n v n = v := by unfold upd; rw [if_pos rfl]
/-- a new node: its map, its block, its entry at its parent's -/
theorem ArH.put {w w' : World} {base : Nat} {A : List Nd} {B M : Nat → Nat} (h : ArH w base A B M) (hI : Inv A) {i d : Nat} {wd : List Int} {sv : Value} (hi : i < A.length) (hbase : base ≤ w.heap.size) (hsv : Own 3 base w sv wd)
    (hg : ((w.alloc (.map #[] 0)).alloc (.cells #[sv, .int .i64 (A.length : Int), .map (some w.heap.size)] 206)).grownBy w' (some (M i)))
    (hM : MapB w' (M i) ((kidE A B i).push ⟨.int .i64 (d : Int), .pointer (some ⟨w.heap.size + 1, 0, none⟩), (kidsOf A i).length⟩) ((kidsOf A i).length + 1)) :
    ArH w' base (A ++ [⟨wd, i, d⟩]) (upd B A.length (w.heap.size + 1)) (upd M A.length w.heap.size) := by
  have h1 : 1 ≤ A.length := by omega
  have hlen : (A ++ [(⟨wd, i, d⟩ : Nd)]).length = A.length + 1 := by simp
  have hMlt : ∀ j, j < A.length → M j < w.heap.size := fun j hj => (h.map j hj).lt
  have hnew : Blk ((w.alloc (.map #[] 0)).alloc (.cells #[sv, .int .i64 (A.length : Int), .map (some w.heap.size)] 206)) (w.heap.size + 1) #[sv, .int .i64 (A.length : Int), .map (some w.heap.size)] 206 := by
    have := Blk.new (w.alloc (.map #[] 0)) #[sv, .int .i64 (A.length : Int), .map (some w.heap.size)] 206
    rwa [World.size_alloc] at this
  have hnm : MapB ((w.alloc (.map #[] 0)).alloc (.cells #[sv, .int .i64 (A.length : Int), .map (some w.heap.size)] 206)) w.heap.size #[] 0 := by
    unfold MapB
    rw [Below.heap_alloc _ _ _ (by rw [World.size_alloc]; omega)]
    exact heap_alloc_new w _
  have hbl := below2 w (.map #[] 0) (.cells #[sv, .int .i64 (A.length : Int), .map (some w.heap.size)] 206)
  have hMi := (h.map i hi).below hbl
  refine ⟨fun j hj => ?_, fun j hj => ?_, fun a b ha hb e => ?_, fun j hj => ?_⟩
  · rw [hlen] at hj
    by_cases e : j = A.length
    · subst e
      rw [upd_new, upd_new, nd_new]
      exact ⟨sv, hnew.grown hg (by have := hMlt i hi; simp; omega), (hsv.kept hbl).grownM hg hMi⟩
    · have hj' : j < A.length := by omega
      rw [upd_old hj', upd_old hj', nd_old hj']
      obtain ⟨sj, g1, g2⟩ := h.blk j hj'
      have g1' := g1.below hbl g1.lt
      exact ⟨sj, g1'.grown hg (by have := g1'.neMap hMi; simpa using this), (g2.kept hbl).grownM hg hMi⟩
  · rw [hlen] at hj
    by_cases e : j = A.length
    · subst e
      rw [upd_new, kids_last h1 hI.par hi]
      have e2 : kidE (A ++ [(⟨wd, i, d⟩ : Nd)]) (upd B A.length (w.heap.size + 1)) A.length = #[] := by unfold kidE; rw [kids_last h1 hI.par hi]; rfl
      rw [e2]
      exact hnm.grown hg (by have := hMlt i hi; simp; omega)
    · have hj' : j < A.length := by omega
      rw [upd_old hj']
      by_cases ei : i = j
      · subst ei
        rw [kidE_push h1 (fun x hx => upd_old hx), upd_new, kids_new i h1, if_pos rfl, List.length_append]
        exact hM
      · rw [(kidE_same (w := wd) (d := d) h1 (fun x hx => upd_old hx) ei).1, (kidE_same (B := B) (B' := B) (w := wd) (d := d) h1 (fun _ _ => rfl) ei).2]
        have hne : M j ≠ M i := fun e => ei (h.inj i j hi hj' e.symm)
        exact ((h.map j hj').below hbl).grown hg (by simpa using hne)
  · rw [hlen] at ha hb
    by_cases ea : a = A.length
    · by_cases eb : b = A.length
      · omega
      · subst ea
        rw [upd_new, upd_old (show b < A.length by omega)] at e
        have := hMlt b (by omega); omega
    · by_cases eb : b = A.length
      · subst eb
        rw [upd_new, upd_old (show a < A.length by omega)] at e
        have := hMlt a (by omega); omega
      · rw [upd_old (show a < A.length by omega), upd_old (show b < A.length by omega)] at e
        exact h.inj a b (by omega) (by omega) e
  · rw [hlen] at hj
    by_cases e : j = A.length
    · subst e; rw [upd_new, upd_new]; omega
    · rw [upd_old (show j < A.length by omega), upd_old (show j < A.length by omega)]; exact h.ge j (by omega)

end Go.Proofs.Ytmipnikhgihcpaa
