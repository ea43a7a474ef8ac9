/- TrieSays: the trie in memory. -/
import Derived.Test.YtmipnikhgihcpaaTrieT
import Derived.Test.YtmipnikhgihcpaaMapP
namespace Go.Proofs.Ytmipnikhgihcpaa
open Go.RowKit
open Go.ChangeMaps (setBlock)
set_option linter.unusedVariables false
set_option linter.unusedSimpArgs false

theorem ins_newQ {w : World} {b c : Nat} {es : Array MapEntry} (k : Int) (v : Value) (h : MapB w b es c) (hn : noKey k es.toList) :
    ∃ w', (Instr.mapUpdate 212 (.map (some b)) (.int .i64 k) v).run Try.prog w = .ok () w' ∧ MapB w' b (es.push ⟨.int .i64 k, v, c⟩) (c + 1) ∧ w.grownBy w' (some b) := by
  refine ⟨setBlock w b (.map (es.push ⟨.int .i64 k, v, c⟩) (c + 1)), ?_, setBlock_get _ h.lt, ⟨rfl, rfl, rfl, by simp [setBlock], fun i hi hne => ?_⟩⟩
  · unfold MapB at h
    simp only [Instr.mapUpdate, Sem.run_bind, run_underlying Try.underlying212, Result.andThen, getObj, Sem.run, h, checkKey_int, Instr.findKey, run_underlying Try.underlying3, findNow_no k _ 0 hn, setObj, setBlock]
    simp [Sem.run_pure, Sem.run, h]
  · exact setBlock_ne _ (fun e => hne (by rw [e]))
theorem zeroQ (w : World) : (zeroValue 120).run Try.prog w = .ok (.pointer none) w := by kernel_rfl
theorem look_noQ {w : World} {b c : Nat} {es : Array MapEntry} {k : Int} (h : MapB w b es c) (hn : noKey k es.toList) :
    (Instr.lookup 212 (.map (some b)) (.int .i64 k) false).run Try.prog w = .ok (.pointer none) w := by
  unfold MapB at h
  simp only [Instr.lookup, Sem.run_bind, run_underlying Try.underlying212, Result.andThen, getObj, Sem.run, h, checkKey_int, Instr.findKey, run_underlying Try.underlying3, findNow_no k _ 0 hn]
  simp only [Sem.run_pure, Result.andThen, zeroQ, Bool.false_eq_true, if_false]
  try rw [findNow_no k _ 0 hn]
  simp [Sem.run_pure, zeroQ, Result.andThen]
theorem look_nilQ (w : World) (k : Int) :
    (Instr.lookup 212 (.map none) (.int .i64 k) false).run Try.prog w = .ok (.pointer none) w := by
  simp only [Instr.lookup, Sem.run_bind, run_underlying Try.underlying212, Result.andThen, checkKey_int]
  simp only [Sem.run_bind, Sem.run_pure, Result.andThen, checkKey_int, Instr.findKey, run_underlying Try.underlying3, findNow_no k [] 0 (fun e he => by cases he)]
  try rw [findNow_no k [] 0 (fun e he => by cases he)]
  simp [Sem.run_pure, zeroQ, Result.andThen]
theorem look_yesQ {w : World} {b c : Nat} {es : Array MapEntry} {k : Int} {e : MapEntry} (h : MapB w b es c) (hk : intKeys es.toList) (he : e ∈ es.toList) (hek : e.key = .int .i64 k) :
    (Instr.lookup 212 (.map (some b)) (.int .i64 k) false).run Try.prog w = .ok e.val w := by
  obtain ⟨j, hj⟩ := findNow_yes hek es.toList 0 hk he
  unfold MapB at h
  simp only [Instr.lookup, Sem.run_bind, run_underlying Try.underlying212, Result.andThen, getObj, Sem.run, h, checkKey_int, Instr.findKey, run_underlying Try.underlying3, hj]
  simp only [Sem.run_pure, Result.andThen, Bool.false_eq_true, if_false]
  try rw [hj]
  simp [Sem.run_pure, Result.andThen]

/-- the entries of a node's map -/
def kidX (A : List (List Int)) (B : Nat → Nat) (i : Nat) : Array MapEntry := ((kidsT A i).zipIdx.map fun p => (⟨.int .i64 (keyT (rx A p.1)), .pointer (some ⟨B p.1, 0, none⟩), p.2⟩ : MapEntry)).toArray
theorem kidX_mem {A : List (List Int)} {B : Nat → Nat} {i : Nat} {e : MapEntry} : e ∈ (kidX A B i).toList ↔ ∃ q x, (kidsT A i)[q]? = some x ∧ e = ⟨.int .i64 (keyT (rx A x)), .pointer (some ⟨B x, 0, none⟩), q⟩ := by
  unfold kidX
  simp only [List.mem_map, Prod.exists, List.mem_zipIdx_iff_getElem?]
  constructor
  · rintro ⟨x, q, h, rfl⟩; exact ⟨q, x, h, rfl⟩
  · rintro ⟨q, x, h, rfl⟩; exact ⟨x, q, h, rfl⟩
theorem kidX_born (A : List (List Int)) (B : Nat → Nat) (i : Nat) : (kidX A B i).toList.map (·.born) = List.range (kidsT A i).length := by
  unfold kidX
  simp only [List.map_map]
  rw [show ((fun x : MapEntry => x.born) ∘ fun p : Nat × Nat => (⟨.int .i64 (keyT (rx A p.1)), .pointer (some ⟨B p.1, 0, none⟩), p.2⟩ : MapEntry)) = Prod.snd from rfl]
  rw [List.zipIdx_map_snd, List.range_eq_range']
theorem kidX_lt {A : List (List Int)} {B : Nat → Nat} {i : Nat} : ∀ e ∈ (kidX A B i).toList, e.born < (kidsT A i).length := by
  intro e he
  have : e.born ∈ (kidX A B i).toList.map (·.born) := List.mem_map.2 ⟨e, he, rfl⟩
  rw [kidX_born] at this
  exact List.mem_range.1 this
theorem kidX_nodup (A : List (List Int)) (B : Nat → Nat) (i : Nat) : ((kidX A B i).toList.map (·.born)).Nodup := by rw [kidX_born]; exact List.nodup_range
theorem kidX_size (A : List (List Int)) (B : Nat → Nat) (i : Nat) : (kidX A B i).size = (kidsT A i).length := by unfold kidX; simp
theorem kidX_keys {A : List (List Int)} (hA : A.Nodup) (B : Nat → Nat) (i : Nat) : intKeys (kidX A B i).toList := by
  refine ⟨fun e he => ?_, ?_⟩
  · obtain ⟨q, x, -, rfl⟩ := kidX_mem.1 he; exact ⟨_, rfl⟩
  · unfold kidX
    simp only [List.pairwise_map]
    rw [List.pairwise_iff_getElem]
    intro a b ha hb hab
    simp only [List.getElem_zipIdx]
    have ha' : a < (kidsT A i).length := by simpa using ha
    have hb' : b < (kidsT A i).length := by simpa using hb
    obtain ⟨g1, g2⟩ := mem_kidsT.1 (List.getElem_mem ha')
    obtain ⟨f1, f2⟩ := mem_kidsT.1 (List.getElem_mem hb')
    intro e
    simp only [Value.int.injEq, true_and] at e
    rw [← e, ← g2] at f2
    have := rx_inj hA f1 g1 f2
    have := (List.pairwise_iff_getElem.1 (kidsT_nodup A i)) a b ha' hb' hab
    omega
theorem kidX_none {A : List (List Int)} {B : Nat → Nat} {i : Nat} {c : Int} (h : ∀ y ∈ kidsT A i, keyT (rx A y) ≠ c) : noKey c (kidX A B i).toList := by
  intro e he
  obtain ⟨q, x, hq, rfl⟩ := kidX_mem.1 he
  exact ⟨_, rfl, h x (List.mem_of_getElem? hq)⟩
theorem kidX_push {A : List (List Int)} {B B' : Nat → Nat} {i : Nat} {c : Int} (hi : i < A.length) (hB : ∀ x, x < A.length → B' x = B x) :
    kidX (A ++ [rx A i ++ [c]]) B' i = (kidX A B i).push ⟨.int .i64 c, .pointer (some ⟨B' A.length, 0, none⟩), (kidsT A i).length⟩ := by
  apply Array.toList_inj.1
  unfold kidX
  rw [kidsT_put hi, if_pos (under_snoc _ _)]
  simp only [List.push_toArray, List.zipIdx_append, List.map_append, List.zipIdx_singleton, List.map_singleton, rx_new, Nat.zero_add, keyT_snoc]
  congr 1
  refine List.map_congr_left fun p hp => ?_
  have hx : p.1 < A.length := (mem_kidsT.1 (List.mem_of_getElem? (List.mem_zipIdx_iff_getElem?.1 hp))).1
  rw [rx_old hx, hB _ hx]
theorem kidX_same {A : List (List Int)} {B B' : Nat → Nat} {i j : Nat} {c : Int} (hA : A.Nodup) (hi : i < A.length) (hj : j < A.length) (hB : ∀ x, x < A.length → B' x = B x) (hne : i ≠ j) :
    kidX (A ++ [rx A i ++ [c]]) B' j = kidX A B j ∧ kidsT (A ++ [rx A i ++ [c]]) j = kidsT A j := by
  have e : kidsT (A ++ [rx A i ++ [c]]) j = kidsT A j := by
    rw [kidsT_put hj, if_neg, List.append_nil]
    rw [under_iff, keyT_snoc]
    intro e
    exact hne (rx_inj hA hi hj (List.append_cancel_right e))
  refine ⟨?_, e⟩
  unfold kidX
  rw [e]
  congr 1
  refine List.map_congr_left fun p hp => ?_
  have hx : p.1 < A.length := (mem_kidsT.1 (List.mem_of_getElem? (List.mem_zipIdx_iff_getElem?.1 hp))).1
  rw [rx_old hx, hB _ hx]

/-- the trie lies in memory: the nodes' blocks, their maps -/
structure TrH (w : World) (base : Nat) (A : List (List Int)) (B : Nat → Nat) (M : Nat → Option Nat) (Wf : List Int → Bool) (Zf : List Int → Nat) : Prop where
  blk : ∀ i, i < A.length → Blk w (B i) #[.map (M i), .bool (Wf (rx A i)), .int .i64 (Zf (rx A i) : Int)] 214
  map : ∀ i b, i < A.length → M i = some b → MapB w b (kidX A B i) (kidsT A i).length
  nil : ∀ i, i < A.length → M i = none → kidsT A i = []
  injB : ∀ i j, i < A.length → j < A.length → B i = B j → i = j
  injM : ∀ i j b, i < A.length → j < A.length → M i = some b → M j = some b → i = j
  geB : ∀ i, i < A.length → base ≤ B i
  geM : ∀ i b, i < A.length → M i = some b → base ≤ b
theorem TrH.kept {w w' : World} {base : Nat} {A : List (List Int)} {B : Nat → Nat} {M : Nat → Option Nat} {Wf : List Int → Bool} {Zf : List Int → Nat} (h : TrH w base A B M Wf Zf) (hb : Below w.heap.size w w') : TrH w' base A B M Wf Zf :=
  ⟨fun i hi => (h.blk i hi).below hb (h.blk i hi).lt, fun i b hi hm => (h.map i b hi hm).below hb, h.nil, h.injB, h.injM, h.geB, h.geM⟩
theorem TrH.drew {w : World} {base : Nat} {A : List (List Int)} {B : Nat → Nat} {M : Nat → Option Nat} {Wf : List Int → Bool} {Zf : List Int → Nat} (h : TrH w base A B M Wf Zf) : TrH w.drew base A B M Wf Zf :=
  ⟨h.blk, h.map, h.nil, h.injB, h.injM, h.geB, h.geM⟩
theorem TrH.drewN {w : World} {base : Nat} {A : List (List Int)} {B : Nat → Nat} {M : Nat → Option Nat} {Wf : List Int → Bool} {Zf : List Int → Nat} (h : TrH w base A B M Wf Zf) (n : Nat) : TrH (w.drewN n) base A B M Wf Zf :=
  ⟨h.blk, h.map, h.nil, h.injB, h.injM, h.geB, h.geM⟩
theorem Blk.mapNe {w : World} {B : Nat} {cs : Array Value} {e : TypeId} {b c : Nat} {es : Array MapEntry} (h : Blk w B cs e) (hM : MapB w b es c) : B ≠ b := by
  rintro rfl
  unfold Blk at h; unfold MapB at hM
  rw [h] at hM; cases hM
theorem MapB.setC {w : World} {b c : Nat} {es : Array MapEntry} (h : MapB w b es c) {a : Addr} (ha : b ≠ a.block) (u : Value) : MapB (w.setCell a u) b es c := by
  unfold MapB; rw [Below.heap_setCell _ _ _ _ ha]; exact h
theorem TrH.word {w : World} {base : Nat} {A : List (List Int)} {B : Nat → Nat} {M : Nat → Option Nat} {Wf Wf' : List Int → Bool} {Zf : List Int → Nat} (h : TrH w base A B M Wf Zf) {i : Nat} (hi : i < A.length) {b : Bool}
    (h1 : Wf' (rx A i) = b) (h2 : ∀ j, j < A.length → j ≠ i → Wf' (rx A j) = Wf (rx A j)) : TrH (w.setCell ⟨B i, 1, none⟩ (.bool b)) base A B M Wf' Zf := by
  refine ⟨fun j hj => ?_, fun j b' hj hm => (h.map j b' hj hm).setC ((h.blk i hi).mapNe (h.map j b' hj hm)).symm _, h.nil, h.injB, h.injM, h.geB, h.geM⟩
  by_cases e : j = i
  · subst e; rw [h1]; exact (h.blk j hj).set 1 (.bool b)
  · rw [h2 j hj e]; exact (h.blk j hj).other (a := ⟨B i, 1, none⟩) (fun g => e (h.injB j i hj hi g)) _
theorem TrH.size {w : World} {base : Nat} {A : List (List Int)} {B : Nat → Nat} {M : Nat → Option Nat} {Wf : List Int → Bool} {Zf Zf' : List Int → Nat} (h : TrH w base A B M Wf Zf) {i : Nat} (hi : i < A.length) {z : Int}
    (h1 : (Zf' (rx A i) : Int) = z) (h2 : ∀ j, j < A.length → j ≠ i → Zf' (rx A j) = Zf (rx A j)) : TrH (w.setCell ⟨B i, 2, none⟩ (.int .i64 z)) base A B M Wf Zf' := by
  refine ⟨fun j hj => ?_, fun j b' hj hm => (h.map j b' hj hm).setC ((h.blk i hi).mapNe (h.map j b' hj hm)).symm _, h.nil, h.injB, h.injM, h.geB, h.geM⟩
  by_cases e : j = i
  · subst e; rw [h1]; exact (h.blk j hj).set 2 (.int .i64 z)
  · rw [h2 j hj e]; exact (h.blk j hj).other (a := ⟨B i, 2, none⟩) (fun g => e (h.injB j i hj hi g)) _
theorem TrH.same {w : World} {base : Nat} {A : List (List Int)} {B : Nat → Nat} {M : Nat → Option Nat} {Wf Wf' : List Int → Bool} {Zf Zf' : List Int → Nat} (h : TrH w base A B M Wf Zf)
    (h1 : ∀ j, j < A.length → Wf' (rx A j) = Wf (rx A j)) (h2 : ∀ j, j < A.length → Zf' (rx A j) = Zf (rx A j)) : TrH w base A B M Wf' Zf' :=
  ⟨fun j hj => by rw [h1 j hj, h2 j hj]; exact h.blk j hj, h.map, h.nil, h.injB, h.injM, h.geB, h.geM⟩

def updT {T : Type} (f : Nat → T) (n : Nat) (v : T) : Nat → T := fun x => if x = n then v else f x
theorem updT_old {T : Type} {f : Nat → T} {n x : Nat} {v : T} (h : x ≠ n) : updT f n v x = f x := by unfold updT; rw [if_neg h]
theorem updT_new {T : Type} (f : Nat → T) (n : Nat) (v : T) : updT f n v n = v := by unfold updT; rw [if_pos rfl]
/-- a node is given its map -/
theorem TrH.give {w : World} {base : Nat} {A : List (List Int)} {B : Nat → Nat} {M : Nat → Option Nat} {Wf : List Int → Bool} {Zf : List Int → Nat} (h : TrH w base A B M Wf Zf) {i : Nat} (hi : i < A.length) (hbase : base ≤ w.heap.size) (hm : M i = none) :
    TrH ((w.alloc (.map #[] 0)).setCell ⟨B i, 0, none⟩ (.map (some w.heap.size))) base A B (updT M i (some w.heap.size)) Wf Zf := by
  have hk := h.kept (below1 w (.map #[] 0))
  have hlt : ∀ j b, j < A.length → M j = some b → b < w.heap.size := fun j b hj g => (h.map j b hj g).lt
  have hBi := (h.blk i hi).lt
  refine ⟨fun j hj => ?_, fun j b hj g => ?_, fun j hj g => ?_, h.injB, fun j k b hj hk' g1 g2 => ?_, h.geB, fun j b hj g => ?_⟩
  · by_cases e : j = i
    · subst e; rw [updT_new]; exact (hk.blk j hj).set 0 (.map (some w.heap.size))
    · rw [updT_old e]; exact (hk.blk j hj).other (a := ⟨B i, 0, none⟩) (fun g => e (h.injB j i hj hi g)) _
  · by_cases e : j = i
    · subst e
      rw [updT_new] at g
      obtain rfl : w.heap.size = b := Option.some.inj g
      have hkn := h.nil j hj hm
      have : kidX A B j = #[] := by unfold kidX; rw [hkn]; rfl
      rw [this, hkn]
      refine MapB.setC (MapB.made w) (show w.heap.size ≠ B j by omega) _
    · rw [updT_old e] at g
      exact (hk.map j b hj g).setC ((hk.blk i hi).mapNe (hk.map j b hj g)).symm _
  · by_cases e : j = i
    · subst e; exact h.nil j hj hm
    · rw [updT_old e] at g; exact h.nil j hj g
  · by_cases e1 : j = i
    · by_cases e2 : k = i
      · omega
      · subst e1
        rw [updT_new] at g1; rw [updT_old e2] at g2
        have := hlt k b hk' g2
        have := Option.some.inj g1; omega
    · rw [updT_old e1] at g1
      by_cases e2 : k = i
      · subst e2
        rw [updT_new] at g2
        have := hlt j b hj g1
        have := Option.some.inj g2; omega
      · rw [updT_old e2] at g2; exact h.injM j k b hj hk' g1 g2
  · by_cases e : j = i
    · subst e
      rw [updT_new] at g
      have := Option.some.inj g; omega
    · rw [updT_old e] at g; exact h.geM j b hj g
/-- a new node: its block, its entry at its parent's -/
theorem TrH.node {w w' : World} {base : Nat} {A S : List (List Int)} {B : Nat → Nat} {M : Nat → Option Nat} {Wf : List Int → Bool} {Zf : List Int → Nat} (h : TrH w base A B M Wf Zf) (hI : TInv A S) {i b : Nat} {c : Int} (hi : i < A.length) (hbase : base ≤ w.heap.size) (hm : M i = some b)
    (hp : rx A i ++ [c] ∉ A) (hWf : Wf (rx A i ++ [c]) = false) (hZf : Zf (rx A i ++ [c]) = 0)
    (hg : ((w.alloc (.cells #[.map none, .bool false, .int .i64 0] 214)).drew).grownBy w' (some b))
    (hM : MapB w' b ((kidX A B i).push ⟨.int .i64 c, .pointer (some ⟨w.heap.size, 0, none⟩), (kidsT A i).length⟩) ((kidsT A i).length + 1)) :
    TrH w' base (A ++ [rx A i ++ [c]]) (updT B A.length w.heap.size) (updT M A.length none) Wf Zf := by
  have hlen : (A ++ [rx A i ++ [c]]).length = A.length + 1 := by simp
  have hbl := below1 w (.cells #[.map none, .bool false, .int .i64 0] 214)
  have hlt : ∀ j b, j < A.length → M j = some b → b < w.heap.size := fun j b hj g => (h.map j b hj g).lt
  have hltB : ∀ j, j < A.length → B j < w.heap.size := fun j hj => (h.blk j hj).lt
  have hMi := (h.map i b hi hm).below hbl
  have hk := (h.kept hbl).drew
  have hkl := kidsT_last hI hp (by simp)
  have hb := hlt i b hi hm
  refine ⟨fun j hj => ?_, fun j b' hj g => ?_, fun j hj g => ?_, fun x y hx hy e => ?_, fun x y b' hx hy g1 g2 => ?_, fun j hj => ?_, fun j b' hj g => ?_⟩
  · rw [hlen] at hj
    by_cases e : j = A.length
    · subst e
      rw [updT_new, updT_new, rx_new, hWf, hZf]
      exact (Blk.new w _ _).drew.grown hg (by simp; omega)
    · have hj' : j < A.length := by omega
      rw [updT_old e, updT_old e, rx_old hj']
      exact (hk.blk j hj').grown hg (by have := (hk.blk j hj').mapNe hMi; simpa using this)
  · rw [hlen] at hj
    by_cases e : j = A.length
    · subst e; rw [updT_new] at g; cases g
    · have hj' : j < A.length := by omega
      rw [updT_old e] at g
      by_cases ei : i = j
      · subst ei
        obtain rfl : b = b' := Option.some.inj (hm.symm.trans g)
        rw [kidX_push hi (fun x hx => updT_old (by omega)), updT_new, kidsT_put hi, if_pos (under_snoc _ _), List.length_append]
        exact hM
      · rw [(kidX_same (c := c) hI.nodup hi hj' (fun x hx => updT_old (by omega)) ei).1, (kidX_same (B := B) (B' := B) (c := c) hI.nodup hi hj' (fun _ _ => rfl) ei).2]
        have hne : b' ≠ b := fun e => ei (h.injM i j b hi hj' hm (e ▸ g))
        exact (hk.map j b' hj' g).grown hg (by simpa using hne)
  · rw [hlen] at hj
    by_cases e : j = A.length
    · subst e; exact hkl
    · have hj' : j < A.length := by omega
      rw [updT_old e] at g
      have ei : i ≠ j := by rintro rfl; rw [hm] at g; cases g
      rw [(kidX_same (B := B) (B' := B) (c := c) hI.nodup hi hj' (fun _ _ => rfl) ei).2]
      exact h.nil j hj' g
  · rw [hlen] at hx hy
    by_cases ea : x = A.length
    · by_cases eb : y = A.length
      · omega
      · subst ea
        rw [updT_new, updT_old eb] at e
        have := hltB y (by omega); omega
    · by_cases eb : y = A.length
      · subst eb
        rw [updT_new, updT_old ea] at e
        have := hltB x (by omega); omega
      · rw [updT_old ea, updT_old eb] at e
        exact h.injB x y (by omega) (by omega) e
  · rw [hlen] at hx hy
    have ex : x ≠ A.length := by rintro rfl; rw [updT_new] at g1; cases g1
    have ey : y ≠ A.length := by rintro rfl; rw [updT_new] at g2; cases g2
    rw [updT_old ex] at g1; rw [updT_old ey] at g2
    exact h.injM x y b' (by omega) (by omega) g1 g2
  · rw [hlen] at hj
    by_cases e : j = A.length
    · subst e; rw [updT_new]; exact hbase
    · rw [updT_old e]; exact h.geB j (by omega)
  · rw [hlen] at hj
    have e : j ≠ A.length := by rintro rfl; rw [updT_new] at g; cases g
    rw [updT_old e] at g
    exact h.geM j b' (by omega) g
theorem TrH.first (w : World) (base : Nat) (hb : base ≤ w.heap.size) (Wf : List Int → Bool) (Zf : List Int → Nat) (hW : Wf [] = false) (hZ : Zf [] = 0) :
    TrH (w.alloc (.cells #[.map none, .bool false, .int .i64 0] 214)) base [[]] (fun _ => w.heap.size) (fun _ => none) Wf Zf := by
  have h0 : ∀ i, i < [([] : List Int)].length → i = 0 := fun i hi => by simpa using hi
  refine ⟨fun i hi => ?_, fun i b hi g => by (try cases g), fun i hi _ => ?_, fun i j hi hj _ => by rw [h0 i hi, h0 j hj], fun i j b hi hj g => by (try cases g), fun i hi => hb, fun i b hi g => by (try cases g)⟩
  · rw [h0 i hi]
    show Blk _ _ #[_, .bool (Wf []), .int .i64 (Zf [] : Int)] _
    rw [hW, hZ]
    exact Blk.new w _ _
  · rw [h0 i hi]; rfl

end Go.Proofs.Ytmipnikhgihcpaa
