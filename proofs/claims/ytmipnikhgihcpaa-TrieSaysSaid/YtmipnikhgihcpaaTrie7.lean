/- Contract of (*trie.Trie).order: the walk. -/
import Derived.Test.YtmipnikhgihcpaaTrie6
import Derived.Test.YtmipnikhgihcpaaShelfT
namespace Go.Proofs.Ytmipnikhgihcpaa
open Go.RowKit
set_option linter.unusedVariables false
set_option linter.unusedSimpArgs false

theorem IterB.row {w w' : World} {base r b s c : Nat} {seen : Array Nat} {v : Value} {es : List Int} (h : IterB w r b s seen c) (ho : Own 3 base w v es) (hg : w.grownBy w' v.ownBlock) : IterB w' r b s seen c := by
  unfold IterB
  rw [hg.block r h.lt (fun e => by
    rcases ho.2 with ⟨rfl, _⟩ | ⟨g, cap, cur, rfl, hb', hgg, rest⟩
    · simp [Value.ownBlock] at e
    · simp only [Value.ownBlock, Option.some.injEq] at e
      subst e
      rw [show w.heap[r]? = _ from h] at hgg
      cases hgg)]
  exact h
theorem IterB.alloc {w : World} {r b s c : Nat} {seen : Array Nat} (h : IterB w r b s seen c) (o : Obj) : IterB (w.alloc o) r b s seen c := by
  unfold IterB; rw [Below.heap_alloc _ _ _ h.lt]; exact h

theorem own_holds {w : World} {base blk n cap : Nat} {es : List Int} (h : Own 3 base w (.slice (some ⟨blk, 0, none⟩) n cap) es) : Go.Sort.Holds (Value.int .i64) w blk 0 es.toArray := by
  obtain ⟨rfl, hc, -⟩ := h.get
  intro j hj
  have hj' : j < es.length := by simpa using hj
  have e1 : es.toArray[j]! = ix es j := by rw [ix_eq hj']; simp [hj']
  rw [e1]
  refine ⟨?_, ?_⟩
  · rcases hc with rfl | ⟨b, o, e, hc⟩
    · simp at hj'
    · simp only [Option.some.injEq, Addr.mk.injEq, and_true] at e
      obtain ⟨rfl, rfl⟩ := e
      exact hc j hj'
  · rcases h.2 with ⟨hv, _⟩ | ⟨g, cap', cur, hv, hb', hgg, rest⟩
    · simp at hv
    · simp only [Value.slice.injEq, Option.some.injEq, Addr.mk.injEq, and_true] at hv
      obtain ⟨rfl, -⟩ := hv
      simp [World.frozen?, hgg]
theorem ints_of {w : World} {blk : Nat} {l : List Int} (h : Go.Sort.Holds (Value.int .i64) w blk 0 l.toArray) : Ints w (some ⟨blk, 0, none⟩) l := by
  refine .inr ⟨blk, 0, rfl, fun i hi => ?_⟩
  have := (h i (by simpa using hi)).1
  rw [this, ix_eq hi]
  simp [hi]
theorem trie_sort (n0 base : Nat) (w : World) (v : Value) (xs : List Int) (h : Own 3 base w v xs) (hs : xs.length ≤ 1000000) :
    Calls Try.prog 249 #[v] w (fun e w' => e = .returned (.tuple #[]) ∧ ∃ a c, v = .slice a (sortI xs).length c ∧ IR n0 w' a (sortI xs) ∧ (sortI xs).length ≤ c ∧ Below base w w') := by
  have h0 := h
  rcases h.2 with ⟨rfl, h1⟩ | ⟨blk, cap, cur, rfl, hb', hgg, hn, rest⟩
  · obtain rfl : xs = [] := List.eq_nil_of_length_eq_zero h1
    have hcon := AnyM.slices_Sort_int_none sortT none 0 w
    change Calls Try.prog 249 _ _ _ at hcon
    refine hcon.mono ?_
    rintro e w' ⟨rfl, rfl⟩
    refine ⟨rfl, none, 0, ?_, ⟨.inl ?_, fun _ ad e => by cases e⟩, ?_, Below.refl _ _⟩ <;> simp [sortI]
  · have hblk := (Array.getElem?_eq_some_iff.1 hgg).1
    have hH := own_holds h0
    have hcon := AnyM.slices_Sort_int sortT blk 0 cap xs w hH hblk (by omega)
    change Calls Try.prog 249 _ _ _ at hcon
    refine hcon.mono ?_
    rintro e w' ⟨rfl, q, os, rfl⟩
    have hsz : (sortI xs).toArray.size = xs.toArray.size := by simp [sortI_len]
    have hp := Go.Sort.holds_grow (Value.int .i64) (Go.Sort.putRow (Value.int .i64) (Go.Sort.ahead w q) blk 0 (sortI xs).toArray) os blk 0 (sortI xs).toArray (by unfold Go.Sort.putRow Go.Sort.mapBlock Go.Sort.ahead; simpa using hblk) (Go.Sort.holds_putRow (Value.int .i64) (Go.Sort.ahead w q) blk 0 xs.toArray (sortI xs).toArray hH hsz)
    refine ⟨rfl, some ⟨blk, 0, none⟩, cap, by rw [sortI_len], ⟨ints_of hp, fun _ ad e => .inr ?_⟩, by rw [sortI_len]; exact hn, ?_⟩
    · cases e
      unfold Go.Sort.grow Go.Sort.putRow Go.Sort.mapBlock Go.Sort.ahead
      dsimp only
      rw [Array.getElem?_append_left (by simpa using hblk), Array.getElem?_modify, if_pos rfl, hgg]
      exact ⟨_, _, rfl⟩
    · refine ⟨rfl, rfl, rfl, by unfold Go.Sort.grow Go.Sort.putRow Go.Sort.mapBlock Go.Sort.ahead; simp, fun k hk => ?_⟩
      unfold Go.Sort.grow Go.Sort.putRow Go.Sort.mapBlock Go.Sort.ahead
      dsimp only
      rw [Array.getElem?_append_left (by simpa using (by omega : k < w.heap.size)), Array.getElem?_modify, if_neg (by omega)]

set_option maxRecDepth 100000 in
set_option maxHeartbeats 4000000 in
theorem trie_order (base : Nat) (n0 : Nat)
    (bs : Nat) (A S : List (List Int)) (B : Nat → Nat) (M : Nat → Option Nat) (Wf : List Int → Bool) (Zf : List Int → Nat) (hI : TInv A S) (hA : A.length ≤ 100000) (x : Nat) (hx : x < A.length) (w : World) (hH : TrH w bs A B M Wf Zf) (hbase : base = w.heap.size) :
    Calls Try.prog 220 #[.pointer (some ⟨B x, 0, none⟩)] w (OrdPost n0 base (ordT A x) w) := by
  obtain ⟨y0, -, -, -, -, -⟩ := (hH.blk x hx).three
  have HS := Lib.hid (trie_sort n0 base)
  cases hM : M x with
  | none =>
    rw [hM] at y0
    have hk := hH.nil x hx hM
    have hord : ordT A x = sortI [] := by unfold ordT keysT; rw [hk]; rfl
    have hrg := run_range_nilMap (P := Try.prog) w 212 3 120 Try.underlying212
    have hnx := fun ty => run_next_nilMap (P := Try.prog) w ty 0 0 #[]
    have HO := Lib.hid hord
    clear hH hk hord
    go_enter Try.func220, Try.ntmps220
    go_wp2
    go_loopw [3] (fun v wr => v = .slice none 0 0 ∧ w.alloc (.mapIter none 0 #[] 0) = wr) (fun _ _ => 0)
    case atStart => exact ⟨rfl, rfl⟩
    case round =>
      obtain ⟨rfl, rfl⟩ := hrel
      have HC := Lib.hid (HS.out (w.alloc (.mapIter none 0 #[] 0)) (.slice none 0 0) [] (Own.nil _ _ _) (by simp))
      go_wp2_with (go_at_call 249; go_loud (refine (HC.out).mono ?_; rintro e w4 ⟨rfl, a4, c4, ho5, ho4, hc4, hb4⟩))
      go_ret
      rw [HO.out]
      exact ⟨a4, c4, by rw [← ho5]; rfl, ho4, hc4, by rw [hbase] at hb4 ⊢; exact (below1 w _).trans hb4⟩
  | some b =>
    rw [hM] at y0
    have hMb := hH.map x b hx hM
    have hMs := hMb.lt
    obtain ⟨cnt, hcnt⟩ : ∃ cnt, (kidsT A x).length = cnt := ⟨_, rfl⟩
    rw [hcnt] at hMb
    have HCNT := Lib.hid hcnt
    have hrg := run_range_map (P := Try.prog) w 212 3 120 b (kidX A B x) cnt Try.underlying212 hMb
    have hIt0 : IterB (w.alloc (.mapIter (some b) cnt #[] cnt)) w.heap.size b cnt #[] cnt := heap_alloc_new w _
    have HIT0 := Lib.hid hIt0; have HMB := Lib.hid hMb
    have hrM : w.heap.size ≠ b := by omega
    clear hcnt hIt0 hMb hMs hM hH
    go_enter Try.func220, Try.ntmps220
    go_wp2
    clear hrg y0
    obtain ⟨r, hr⟩ : ∃ r, w.heap.size = r := ⟨_, rfl⟩
    have hbr : base = r := hbase.trans hr
    rw [hr] at hrM HIT0 ⊢
    go_loopw [3] (fun v wr => ∃ seen xs, IterB wr r b cnt seen cnt ∧ Own 3 base wr v xs ∧ SeenT A x seen xs ∧ Below base w wr) (fun _ wr => (leftOf (kidX A B x) (wr.iterSeen r)).size)
    case atStart => exact ⟨#[], [], HIT0.out, Own.nil _ _ _, SeenT.nil A x, by rw [hbase]; exact below1 w _⟩
    case round =>
      clear HIT0
      obtain ⟨seen, xs, hIt, hv, hs, hk⟩ := hrel
      have hmp := HMB.out.below (by rw [← hbase]; exact hk)
      have hsz := hk.size
      have HIT := Lib.hid hIt; have HMP := Lib.hid hmp; have HVV := Lib.hid hv; have HSN := Lib.hid hs; have HK := Lib.hid hk
      have HSEEN := Lib.hid (show wr.iterSeen r = seen by unfold World.iterSeen; rw [show wr.heap[r]? = _ from hIt])
      have hdum : True := trivial
      have hbw : base ≤ wr.heap.size := by rw [hbr]; exact Nat.le_of_lt hIt.lt
      have hlen := hs.len
      clear hIt hv hs hk hmp
      go_wp2_with (show wpList _ _ _ (⟨some 10, _, _, _, _, _⟩ :: _) _ _; revert hdum)
      intro hdum
      refine next_at2 rfl _ rfl r b cnt cnt seen (kidX A B x) rfl HIT.out HMP.out (fun x hx => by have := kidX_lt x hx; rwa [HCNT.out] at this) (Nat.le_refl _) (kidX_nodup A B x) hrM ?_ ?_
      · intro h0
        have HALL := Lib.hid (show ∀ q, q < (kidsT A x).length → q ∈ seen from fun q hq => by
          have : q ∈ (kidX A B x).toList.map (·.born) := by rw [kidX_born]; exact List.mem_range.2 hq
          obtain ⟨e, he, rfl⟩ := List.mem_map.1 this
          exact h0 e he)
        have HC := Lib.hid (HS.out wr _ xs HVV.out (by omega))
        clear h0
        simp only [Act.put, List.setIfInBounds_toArray, List.set_cons_succ, List.set_cons_zero]
        go_wp2_with (go_at_call 249; go_loud (refine (HC.out).mono ?_; rintro e w4 ⟨rfl, a4, c4, ho5, ho4, hc4, hb4⟩))
        go_ret
        rw [← HSN.out.all HALL.out]
        exact ⟨a4, c4, by rw [← ho5]; rfl, ho4, hc4, HK.out.trans hb4⟩
      · intro en w9 hen hns hIt9 hMp9 hlt9 hbel9 hgr9 hent
        obtain ⟨q, y, hq, rfl⟩ := kidX_mem.1 hen
        dsimp only at hns hlt9 hIt9 hent
        obtain ⟨kx, hkx⟩ : ∃ kx, keyT (rx A y) = kx := ⟨_, rfl⟩
        rw [hkx] at hent
        have hk9 : Below base w w9 := hbel9 base w (by rw [hbr]; exact Nat.le_refl _) HK.out
        have hv9 : Own 3 base w9 _ _ := HVV.out.grownI hgr9 HIT.out
        have hs9 := HSN.out.push hq hns
        rw [hkx] at hs9
        have hb9 : base ≤ w9.heap.size := by rw [hbr]; exact Nat.le_of_lt hIt9.lt
        have HLT := Lib.hid hlt9; have HIT9 := Lib.hid hIt9; have HK9 := Lib.hid hk9; have HS9 := Lib.hid hs9
        clear hen hns hlt9 hbel9 hgr9 hMp9 hIt9 hk9 hq hkx hs9
        simp only [Act.put, List.setIfInBounds_toArray, List.set_cons_succ, List.set_cons_zero]
        go_wp2_with (at_builtin; go_loud (refine app1 rfl _ _ rfl base _ xs kx ⟨w9.heap.size, 0, none⟩ rfl rfl (hv9.alloc _) (cell_new1 _ _ _) (by omega) (by rw [World.size_alloc]; exact Nat.le_succ_of_le hb9) ?_; intro v4 w4 h4 hg4))
        have hI4 := (HIT9.out.alloc (.cells #[.int .i64 kx] 3)).row (hv9.alloc _) hg4
        refine ⟨⟨seen.push q, xs ++ [kx], hI4, h4, HS9.out, ?_⟩, ?_⟩
        · exact (HK9.out.alloc hb9 _).grown hg4 (by rw [World.size_alloc]; omega) hv9.row
        · rw [IterB.seenIs hI4, HSEEN.out]
          exact HLT.out

end Go.Proofs.Ytmipnikhgihcpaa
