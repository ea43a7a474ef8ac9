/- Contract of slices.SortFunc at the finds; (*near.Tree).Within. -/
import Derived.Test.YtmipnikhgihcpaaNear8
import Derived.Test.YtmipnikhgihcpaaNear7
namespace Go.Proofs.Ytmipnikhgihcpaa
open Go.RowKit
set_option linter.unusedVariables false
set_option linter.unusedSimpArgs false

instance : Inhabited N2 := ⟨⟨0, 0⟩⟩
theorem cmpI_neg {x y : Int} : cmpI x y < 0 ↔ x < y := by
  unfold cmpI
  split
  · simp; assumption
  · split <;> simp <;> omega
theorem cmpI_zero {x y : Int} : cmpI x y = 0 ↔ x = y := by
  unfold cmpI
  split
  · simp; omega
  · split <;> simp <;> omega
/-- one find stands ahead of another -/
def ltN (x y : N2) : Bool := decide (x.b < y.b ∨ (x.b = y.b ∧ x.a < y.a))
theorem ltN_is (x y : N2) : ltOf cmpN x y = ltN x y := by
  unfold ltOf ltN cmpN
  rw [Bool.eq_iff_iff, decide_eq_true_eq, decide_eq_true_eq]
  by_cases h : x.b = y.b
  · rw [if_neg (by simpa [cmpI_zero] using h), cmpI_neg]
    omega
  · rw [if_pos (by simpa [cmpI_zero] using h), cmpI_neg]
    omega
theorem swoN : Go.Sort.SWO (ltOf cmpN) where
  irrefl x := by rw [ltN_is]; unfold ltN; simp
  trans x y z h1 h2 := by
    rw [ltN_is] at *
    unfold ltN at *
    simp only [decide_eq_true_eq] at *
    omega
  ntrans x y z h1 h2 := by
    rw [ltN_is] at *
    unfold ltN at *
    simp only [decide_eq_false_iff_not] at *
    omega
theorem ltN_total (x y : N2) (h1 : ltOf cmpN x y = false) (h2 : ltOf cmpN y x = false) : x = y := by
  rw [ltN_is] at *
  unfold ltN at *
  simp only [decide_eq_false_iff_not] at *
  obtain ⟨a, b⟩ := x
  obtain ⟨c, d⟩ := y
  simp only at *
  rw [show b = d by omega, show a = c by omega]
/-- the finds, sorted -/
def sortN2 (l : List N2) : List N2 := l.mergeSort fun x y => !(ltN y x)
theorem swoTotal (x y : N2) : ((!(ltN y x)) || (!(ltN x y))) = true := by
  unfold ltN
  by_cases h : x.b < y.b ∨ (x.b = y.b ∧ x.a < y.a)
  · rw [decide_eq_true h, decide_eq_false (show ¬ (y.b < x.b ∨ (y.b = x.b ∧ y.a < x.a)) by omega)]; rfl
  · rw [decide_eq_false h]; simp
theorem swoTrans (x y z : N2) (h1 : (!(ltN y x)) = true) (h2 : (!(ltN z y)) = true) : (!(ltN z x)) = true := by
  unfold ltN at *
  simp only [Bool.not_eq_true', decide_eq_false_iff_not] at *
  omega
theorem sortN2_perm {l m : List N2} (h : l.Perm m) : sortN2 l = sortN2 m := by
  refine List.Perm.eq_of_pairwise (le := fun x y => (!(ltN y x)) = true) ?_ (List.pairwise_mergeSort swoTrans swoTotal l) (List.pairwise_mergeSort swoTrans swoTotal m) (((List.mergeSort_perm l _).trans h).trans (List.mergeSort_perm m _).symm)
  intro x y _ _ h1 h2
  exact ltN_total x y (by rw [ltN_is]; simpa using h2) (by rw [ltN_is]; simpa using h1)
theorem sortN2_len (l : List N2) : (sortN2 l).length = l.length := (List.mergeSort_perm l _).length_eq
theorem sortN2_same {l : List N2} (h : l.Pairwise fun x y => ltN x y = true) : sortN2 l = l := by
  refine List.mergeSort_of_pairwise (h.imp fun {x y} hxy => ?_)
  unfold ltN at *
  simp only [Bool.not_eq_true', decide_eq_false_iff_not, decide_eq_true_eq] at *
  omega

theorem holdsN {w : World} {base blk n cap : Nat} {es : List N2} (h : NOwn base w (.slice (some ⟨blk, 0, none⟩) n cap) es) : Go.Sort.HoldsK N2.cells 2 w blk 0 es.toArray := by
  obtain ⟨hc, rfl⟩ := h.nears
  intro t ht
  rw [Go.Sort.size_flatK, List.size_toArray] at ht
  have hi : t / 2 < es.length := by omega
  refine ⟨?_, ?_⟩
  · rw [Go.Sort.get_flatK _ _ _ _ (by simpa using ht)]
    rcases hc with rfl | ⟨b, o, e, hc⟩
    · simp at hi
    · simp only [Option.some.injEq, Addr.mk.injEq, and_true] at e
      obtain ⟨rfl, rfl⟩ := e
      have e1 : es.toArray[t / 2]! = es[t / 2] := by simp [hi]
      rw [e1]
      have h2 : t % 2 < 2 := Nat.mod_lt _ (by decide)
      have := hc (t / 2) hi (t % 2) ((es[t / 2].cells)[t % 2]!) (by
        rcases (show t % 2 = 0 ∨ t % 2 = 1 by omega) with e | e <;> rw [e] <;> rfl)
      rw [show 0 + (t / 2 * 2 + t % 2) = 0 + t by omega] at this
      exact this
  · rcases h.2 with ⟨hv, _⟩ | ⟨g, cap', cur, hv, hb', hgg, rest⟩
    · simp at hv
    · simp only [Value.slice.injEq, Option.some.injEq, Addr.mk.injEq, and_true] at hv
      obtain ⟨rfl, -⟩ := hv
      simp [World.frozen?, hgg]
theorem nears_of {w : World} {blk : Nat} {l : List N2} (h : Go.Sort.HoldsK N2.cells 2 w blk 0 l.toArray) : NearR w (some ⟨blk, 0, none⟩) l := by
  refine .inr ⟨blk, 0, rfl, fun i hi j v hj => ?_⟩
  have hj2 : j < 2 := by have := (List.getElem?_eq_some_iff.1 hj).1; simpa [N2.cells] using this
  have := (h (i * 2 + j) (by rw [Go.Sort.size_flatK, List.size_toArray]; omega)).1
  rw [Go.Sort.get_flatK _ _ _ _ (by rw [List.size_toArray]; omega)] at this
  rw [this, show (i * 2 + j) / 2 = i by omega, show (i * 2 + j) % 2 = j by omega]
  have e1 : l.toArray[i]! = l[i] := by simp [hi]
  rw [e1]
  simp only [id]
  rw [List.getElem!_eq_getElem?_getD, hj]; rfl
theorem sorted_below (w : World) (blk m : Nat) (d : Array N2) (os : Array Obj) (hblk : blk < w.heap.size) : Below blk w (sortWorldK N2.cells 2 w blk 0 m d os) := by
  refine ⟨rfl, rfl, rfl, ?_, fun k hk => ?_⟩
  · exact size_sortWorldK_c N2.cells 2 w blk 0 m d os
  · unfold sortWorldK Go.Sort.grow Go.Sort.putRowK Go.Sort.putRow Go.Sort.mapBlock Go.Sort.ahead
    dsimp only
    rcases Nat.lt_or_ge k w.heap.size with h | h
    · rw [Array.getElem?_append_left (by simpa using h), Array.getElem?_modify, if_neg (by omega)]
    · omega

set_option maxRecDepth 100000 in
theorem near_sort (blk n cap base : Nat) (es : List N2) (w : World) (h : NOwn base w (.slice (some ⟨blk, 0, none⟩) n cap) es) (hs : es.length ≤ 1000000) (hblk : blk < w.heap.size) :
    Calls Try.prog 131 #[.slice (some ⟨blk, 0, none⟩) n cap, .func (.func 132) #[] #[]] w fun e w' => e = .returned (.tuple #[]) ∧ NearR w' (some ⟨blk, 0, none⟩) (sortN2 es) ∧ Below blk w w' := by
  have eg : ∀ args w, (callFunc 132 args).run Try.prog w = .ok (.enter 132 args) w := enters_of Try.func132 (by kernel_rfl) rfl
  have hn := h.nears.2
  have hH := holdsN h
  have hc : CmpLays Try.prog 132 #[] N2.cells 2 cmpN blk 0 es.toArray.size w := fun m os dk hsz x y => within_cmp x y _
  have hcon := AnyQ.slices_SortFunc_total sortN 2 Try.isAgg116 Try.sizeOf116 N2.cells (fun _ => rfl) one2n cmpN swoN 132 #[] blk 0 cap es.toArray w eg hc hH hblk (by simp; omega) ltN_total
  rw [List.size_toArray, ← hn] at hcon
  change Calls Try.prog 131 _ _ _ at hcon
  refine hcon.mono ?_
  rintro e w' ⟨rfl, q, os, rfl⟩
  have e1 : (es.toArray.toList.mergeSort fun x y => !ltOf cmpN y x) = sortN2 es := by
    unfold sortN2
    congr 1
    funext x y
    rw [ltN_is]
  rw [e1]
  refine ⟨rfl, nears_of (holdsK_sortWorldK_c N2.cells 2 w blk 0 es.toArray (sortN2 es).toArray q os hH hblk (by simp [sortN2_len])), sorted_below w blk q _ os hblk⟩

/-- the words near enough, sorted -/
def findL (A : List Nd) (wd : List Int) (k : Nat) : List N2 := sortN2 (((List.range A.length).filter fun x => decide (dst (nd A x).wd wd ≤ k)).map (nearN A wd))
theorem findL_is {A : List Nd} (hI : Inv A) {wd : List Int} {k : Nat} {L : List Nat} (hn : L.Nodup) (h : ∀ x, x ∈ L ↔ x < A.length ∧ Anc A 0 x ∧ dst (nd A x).wd wd ≤ k) : sortN2 (L.map (nearN A wd)) = findL A wd k := by
  refine sortN2_perm (List.Perm.map _ ?_)
  refine (List.perm_ext_iff_of_nodup hn (List.Nodup.sublist List.filter_sublist List.nodup_range)).2 fun x => ?_
  rw [h x, List.mem_filter, List.mem_range, decide_eq_true_eq]
  exact ⟨fun g => ⟨g.1, g.2.2⟩, fun g => ⟨g.1, Anc.root hI.par _ x (Nat.le_refl _) g.1, g.2⟩⟩
theorem sort_none (w : World) : Calls Try.prog 131 #[.slice none 0 0, .func (.func 132) #[] #[]] w fun e w' => e = .returned (.tuple #[]) ∧ w' = w :=
  AnyF.slices_SortFunc_none sortN none 0 (.func (.func 132) #[] #[]) w
def WinPost (l : List N2) (w : World) (e : Ending) (w' : World) : Prop := ∃ a c, e = .returned (.tuple #[.slice a l.length c, .int .i64 0]) ∧ NearR w' a l ∧ Below w.heap.size w w'

set_option maxRecDepth 100000 in
set_option maxHeartbeats 1000000 in
theorem near_Within (bs : Nat) (A : List Nd) (B M : Nat → Nat) (hI : Inv A) (h100 : A.length ≤ 100) (h1 : 1 ≤ A.length) (wd : List Int) (a : Option Addr) (m c : Nat) (hm : wd.length = m) (hm2 : m ≤ 24) (hA : ∀ x, x < A.length → (nd A x).wd.length ≤ 24) (w : World) (hH : ArH w bs A B M) (hT : Ints w a wd) (most : Nat) :
    Calls Try.prog 68 #[.pointer (some ⟨B 0, 0, none⟩), .slice a m c, .int .i64 (most : Int)] w (WinPost (findL A wd (min most 200)) w) := by
  have HW := Lib.hid (near_within w bs A B M hI h100 wd a m c hT hm hm2 (min most 200) (Nat.min_le_right _ _) hA A.length 0 (by omega) (by omega) w (.slice none 0 0) [] (Below.refl _ _) hH (NOwn.nil _ _) List.nodup_nil (fun x hx => by cases hx))
  have hmi : (m : Int) ≤ 24 := by omega
  have hmo : (0 : Int) ≤ (most : Int) := by omega
  have hw : ∃ K : Nat, K = min most 200 ∧ ((most ≤ 200 ∧ K = most) ∨ (200 < most ∧ K = 200)) := ⟨_, rfl, by omega⟩
  obtain ⟨K, hK, hc⟩ := hw
  rw [← hK] at HW ⊢
  have HF := Lib.hid (fun (L : List Nat) hn h => findL_is (A := A) hI (wd := wd) (k := K) (L := L) hn h)
  have HL := Lib.hid (fun (L : List Nat) (hn : L.Nodup) (h : ∀ x, x ∈ L ↔ x < A.length ∧ Anc A 0 x ∧ dst (nd A x).wd wd ≤ K) => nodup_len A.length L hn (fun x hx => ((h x).1 hx).1))
  clear hI hH hT hA hK
  have HNO := Lib.hid sort_none
  obtain ⟨R, hR⟩ : ∃ R, findL A wd K = R := ⟨_, rfl⟩
  rw [hR] at HF ⊢
  clear hR
  have h3 : (K : Int) = min (most : Int) 200 := by omega
  rw [h3] at HW
  clear h3 hc
  go_enter Try.func68, Try.ntmps68
  go_upto_region 6 with (go_at_call 130; go_loud (refine (HW.out).mono ?_; rintro e w3 ⟨v3, L, rfl, hv3, hn3, hL3, hk3⟩))
  rw [List.nil_append] at hv3 hn3
  have HS := Lib.hid (HF.out L hn3 hL3)
  have hlen := HL.out L hn3 hL3
  have hbl := hk3.below
  clear hk3 hL3 hn3
  rcases hv3.2 with ⟨rfl, h0⟩ | ⟨g, cap, cur, rfl, hb', hgg, -⟩
  · have hL0 : L = [] := List.eq_nil_of_length_eq_zero (by simpa using h0)
    have HL0 := Lib.hid hL0
    clear hv3 hlen h0 hL0
    go_wp2_with (go_at_call 131; go_loud (refine (HNO.out _).mono ?_; rintro e w4 ⟨rfl, rfl⟩))
    go_ret2
    have hR : R = [] := by rw [← HS.out, HL0.out]; simp [sortN2]
    subst hR
    exact ⟨none, 0, rfl, .inl rfl, hbl⟩
  · have hgl : g < w3.heap.size := (Array.getElem?_eq_some_iff.1 hgg).1
    have hso := near_sort g _ cap w.heap.size _ w3 hv3 (by rw [List.length_map]; omega) hgl
    have HSO := Lib.hid hso
    have HLE := Lib.hid (sortN2_len (L.map (nearN A wd)))
    obtain ⟨nl, hnl⟩ : ∃ nl, (L.map (nearN A wd)).length = nl := ⟨_, rfl⟩
    rw [hnl] at HSO HLE ⊢
    rw [HS.out] at HLE
    clear hv3 hgg hso hnl hlen
    go_wp2_with (go_at_call 131; go_loud (refine (HSO.out).mono ?_; rintro e w4 ⟨rfl, hr4, hb4⟩))
    go_ret2
    rw [HS.out] at hr4
    refine ⟨some ⟨g, 0, none⟩, cap, ?_, hr4, hbl.trans (hb4.mono hb')⟩
    rw [HLE.out]; rfl

end Go.Proofs.Ytmipnikhgihcpaa
