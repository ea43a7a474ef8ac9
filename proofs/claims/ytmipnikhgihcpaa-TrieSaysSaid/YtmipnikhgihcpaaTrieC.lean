/- Contract of (*trie.Trie).List: the walk. -/
import Derived.Test.YtmipnikhgihcpaaTrieB
namespace Go.Proofs.Ytmipnikhgihcpaa
open Go.RowKit Go.Shelf
set_option linter.unusedVariables false
set_option linter.unusedSimpArgs false
attribute [local go_sem] Oper.semAt_some

def ListPost (ws : List (List Int)) (w : World) (e : Ending) (w' : World) : Prop := ∃ v vs, e = .returned v ∧ Vs w' v vs ∧ Lists w' vs ws ∧ Below w.heap.size w w'
def LStop (w : World) (b7 b5 : Nat) (most : Int) (id : Nat) (s : List (List Int)) (W : World) : Prop := id = 0 ∧ most.toNat ≤ s.dropLast.length ∧ s ≠ [] ∧ LInv w b7 b5 most s.dropLast W
theorem YV.sl {n0 : Nat} {W : World} {v : Value} {x : List Int} (h : YV n0 W v x) : Sl W v x := by
  obtain ⟨a, n, c, h1, h2, h3, h4, h5, h6⟩ := h
  exact ⟨a, n, c, h1, h2, h3, h4, h6.1, h5⟩

theorem list_end {w W : World} {b7 b5 D : Nat} {most : Int} {s : List (List Int)} {v : Value} (hi : LInv w b7 b5 most s W) (hv : Boxed W b7 46 v) (hD : w.heap.size ≤ D) (hne : b7 ≠ D) (hK : W.heap[D]? = some (.deferred (some []))) : ListPost s w (.returned v) (W.putObj D (.deferred none)) := by
  have hi2 := hi.put (.deferred none) hD hK rfl
  obtain ⟨v2, vs, g1, g2, g3, g4⟩ := hi2.box
  have h1 : Boxed (W.putObj D (.deferred none)) b7 46 v := (World.putObj_heap_other hne).trans hv
  have e : v2 = v := by
    unfold Boxed at g1 h1
    rw [h1] at g1
    simp at g1
    exact g1.symm
  subst e
  exact ⟨v2, vs, rfl, g2.vs, ⟨g3, fun i hi => (g4 i hi).sl⟩, hi2.bel⟩
set_option maxRecDepth 100000 in
set_option maxHeartbeats 2000000 in
theorem trie_list (bs : Nat) (A S : List (List Int)) (B : Nat → Nat) (M : Nat → Option Nat) (w : World) (hH : TrH w bs A B M (inS S) (cnt S)) (hI : TInv A S) (hS : S.Nodup) (hS2 : S.length ≤ 1000) (hA : A.length ≤ 100000)
    (p : List Int) (a : Option Addr) (m c : Nat) (ha : Ints w a p) (hm : p.length = m) (hmc : m ≤ c) (hc : c ≤ 9223372036854775807) (h0 : a = none → m = 0) (most : Int) (hmo1 : -9223372036854775808 ≤ most) (hmo2 : most ≤ 9223372036854775807) :
    Calls Try.prog 82 #[.pointer (some ⟨B 0, 0, none⟩), .slice a m c, .int .i64 most] w (ListPost ((begS S p).take most.toNat) w) := by
  refine (callsIn_wide (n := 9)).1 ?_
  have hw5 := Boxed.new w 3 (.int .i64 most)
  have hw7 := Boxed.new (w.alloc (.cells #[.int .i64 most] 3)) 46 (.slice none 0 0)
  rw [World.size_alloc] at hw7
  refine callsIn_of_wp_marks Try.func82 rfl trivial ?_ rfl
  simp only [Try.ntmps82, List.size_toArray, List.length_cons, List.length_nil, Nat.reduceAdd, Nat.reduceSub, Array.replicate_succ, Array.replicate_zero, List.push_toArray, List.append_toArray, List.nil_append, List.cons_append]
  gi_wp2
  refine ⟨trivial, (callsIn_wide.2 (trie_words _ _ _ _ _)).mono ?_⟩
  rintro e w' ⟨rfl, rfl⟩
  rw [World.size_alloc, World.size_alloc]
  obtain ⟨w4, hw4⟩ : ∃ w4, ((((w.alloc (.cells #[.int .i64 most] 3)).alloc (.cells #[.slice none 0 0] 46)).alloc (.cells #[.pointer (some ⟨B 0, 0, none⟩)] 120)).alloc (.cells #[.slice a m c] 22)) = w4 := ⟨_, rfl⟩
  have hsz4 : w4.heap.size = w.heap.size + 4 := by rw [← hw4]; simp [World.size_alloc]
  have hb4 : Below w.heap.size w w4 := by
    rw [← hw4]
    exact ((((Below.refl _ w).alloc (Nat.le_refl _) _).alloc (by simp [World.size_alloc]) _).alloc (by simp [World.size_alloc]; omega) _).alloc (by simp [World.size_alloc]; omega) _
  have h5 : Boxed w4 w.heap.size 3 (.int .i64 most) := by rw [← hw4]; exact ((hw5.alloc _).alloc _).alloc _
  have h7 : Boxed w4 (w.heap.size + 1) 46 (.slice none 0 0) := by rw [← hw4]; exact (hw7.alloc _).alloc _
  have c1 : w4.cell? ⟨w.heap.size + 2, 0, none⟩ = some (.pointer (some ⟨B 0, 0, none⟩)) := by
    have := Boxed.new ((w.alloc (.cells #[.int .i64 most] 3)).alloc (.cells #[.slice none 0 0] 46)) 120 (.pointer (some ⟨B 0, 0, none⟩))
    rw [World.size_alloc, World.size_alloc] at this
    rw [← hw4]; exact (this.alloc _).cell
  have c2 : w4.cell? ⟨w.heap.size + 3, 0, none⟩ = some (.slice a m c) := by
    have := Boxed.new (((w.alloc (.cells #[.int .i64 most] 3)).alloc (.cells #[.slice none 0 0] 46)).alloc (.cells #[.pointer (some ⟨B 0, 0, none⟩)] 120)) 22 (.slice a m c)
    rw [World.size_alloc, World.size_alloc, World.size_alloc] at this
    rw [← hw4]; exact this.cell
  rw [hw4]
  have hit := trie_hands w bs A S B M hH hI hS hA p a m c ha hm hmc hc h0 8 (w.heap.size + 2) (w.heap.size + 3) w4 hb4 c1 c2
  have hwl : (begS S p).length ≤ 1000 := by rw [begS_len]; exact Nat.le_trans (cnt_le S p) hS2
  have h00 : LInv w (w.heap.size + 1) w.heap.size most [] w4 := ⟨⟨_, [], h7, VOwn.nil _ _ _, rfl, fun i hi => by simp at hi⟩, h5, Nat.zero_le _, hb4⟩
  clear hw4 hw5 hw7 c1 c2 h5 h7
  gi_wp2
  refine wp_hands (n0 := w.heap.size) (ws := begS S p) rfl (enters_of Try.func177 (by kernel_rfl) rfl) hb4.size hit
    (fun s W => LInv w (w.heap.size + 1) w.heap.size most s W) (fun id s W => LStop w (w.heap.size + 1) w.heap.size most id s W)
    (fun v => { tmps := #[.pointer (some ⟨B 0, 0, none⟩), .slice a m c, .int .i64 most, undef, undef, .pointer (some ⟨w.heap.size, 0, none⟩), .slice none 0 0, .pointer (some ⟨w.heap.size + 1, 0, none⟩), v, .pointer (some ⟨B 0, 0, none⟩), .slice a m c, .func (.func 177) #[] #[.pointer (some ⟨w.heap.size + 2, 0, none⟩), .pointer (some ⟨w.heap.size + 3, 0, none⟩)], v, undef, undef, undef, undef, undef, undef, undef, undef, undef], defers := [] })
    ?_ ?_ ?_ ?_ ?assign ?body ?done ?stop
  case assign =>
    intro l m v W K hK
    gi_wp2
    exact hK
  case body =>
    rintro l m pre v x W hi hlen hv
    obtain ⟨v0, vs, h1, h2, h3, h4⟩ := hi.box
    obtain ⟨a0, n0, c0, rfl, e1, e2, e3, e4, e5⟩ := h2.vs
    have hv0 := hv
    obtain ⟨av, nv, cv, rfl, -⟩ := hv0
    have hcv := h1.cell; have hfv := h1.frozen; have hcm := hi.cm.cell
    obtain ⟨i0, hi0, hz0, hz1, hz2⟩ := info_parts info_sl
    have hle := hi.bel.size
    have HV := Lib.hid hv; have HI := Lib.hid hi; have H4 := Lib.hid h4
    by_cases hlt : (n0 : Int) < most
    · have hno : ¬ most ≤ (n0 : Int) := by omega
      clear hv hi h4 hit h00 ha hH hI
      gi_wp2_with (gi_at_builtin; refine wpListIn_append_own _ rfl _ _ 46 rfl w.heap.size 22 i0 (.slice none 0 0) 1 24 Try.underlying46 hi0 hz0 hz1 hz2 rfl (by decide) _ _ _ rfl (VOwn.alloc h2 _) ⟨W.heap.size, 0, none⟩ 1 1 [.slice av nv cv] rfl rfl (cell_one_new _ _ _) (by simp [Value.oneCell']) (by unfold maxLen; omega) (by omega) (Nat.le_trans hle (al_le W _)) ?_; intro v' w1 hown' hgrow _; obtain ⟨g', cap', rfl⟩ := ownsRow_succ hown'; obtain ⟨hv1, hv2, hr2, hk2, hb2⟩ := h1.appended (by decide) h2 hle (Nat.le_succ _) hown' hgrow; have hc1 := hv1.cell; have hf1 := hv1.frozen)
      have hm2 := HI.out.more (Nat.le_succ _) h1 h2 h3 H4.out HV.out (by omega) (by unfold VOwn; simpa using hown') hgrow
      rw [h3] at hk2 hm2
      exact ⟨hk2, hm2.1, hm2.2⟩
    · have hno : most ≤ (n0 : Int) := by omega
      clear hv hi h4 hit h00 ha hH hI
      gi_wp2
      refine ⟨KeepsOthers.refl _, IKeep.refl _ _, rfl, ?_, by simp, by rw [List.dropLast_concat]; exact HI.out⟩
      rw [List.dropLast_concat]; omega
  case done =>
    rintro D W hD hi hK
    obtain ⟨v, vs, h1, h2, h3, h4⟩ := hi.box
    have hcv := h1.cell
    have hL := list_end hi h1 (by omega) (by omega) hK
    have HL := Lib.hid hL; have HW := Lib.hid (show (begS S p).take most.toNat = begS S p from List.take_of_length_le hi.len)
    clear hL hi h4 hit h00 ha hH hI
    gi_wp2
    refine ⟨by simp, .inl ⟨_, _, rfl, run_takeDeferred hK, ?_⟩⟩
    exact ⟨_, results_tmp rfl _ _ _, by rw [HW.out]; exact HL.out⟩
  case stop =>
    rintro D id q W hD hq ⟨rfl, h1, h2, hi⟩ hK
    obtain ⟨v, vs, g1, g2, g3, g4⟩ := hi.box
    have hcv := g1.cell
    have hL := list_end hi g1 (by omega) (by omega) hK
    have hw : (begS S p).take most.toNat = q.dropLast := by
      have := hi.len
      have hp : q.dropLast <+: begS S p := (List.dropLast_prefix q).trans hq
      rw [List.prefix_iff_eq_take.1 hp]
      congr 1
      omega
    have HL := Lib.hid hL; have HW := Lib.hid hw
    clear hL hi g4 hit h00 ha hH hI hw hq
    gi_wp2
    refine ⟨by simp, .inl ⟨_, _, rfl, run_takeDeferred hK, ?_⟩⟩
    exact ⟨_, results_tmp rfl _ _ _, by rw [HW.out]; exact HL.out⟩
  · exact fun s W W' h hb => h.below hb
  · exact fun s W l o o' h hl ho hc => h.put o' (by omega) ho hc
  · exact fun id s W l o o' ⟨h1, h2, h3, h4⟩ hl ho hc => ⟨h1, h2, h3, h4.put o' (by omega) ho hc⟩
  · exact h00

end Go.Proofs.Ytmipnikhgihcpaa
