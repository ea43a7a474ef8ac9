/- Contract of fairref.Key: a character is typed. -/
import Derived.Test.YtodgclaaalclkaaEditS
namespace Go.Proofs.Ytodgclaaalclkaa
open Go.RowKit
set_option linter.unusedVariables false
set_option linter.unusedSimpArgs false

set_option maxRecDepth 100000 in
set_option maxHeartbeats 2000000 in
theorem ref_key_print (ad : Addr) (n c q : Nat) (xs : List Int) (mode key : Int) (w : World) (ha : Ints w (some ad) xs) (hn : xs.length = n) (hc : n ≤ c) (hc2 : c ≤ 9223372036854775807) (hn200 : n ≤ 200) (hqn : q ≤ n) (hmode : mode = 1 ∨ mode = 2) (hpr : 32 ≤ key ∧ key ≠ 127) :
    Calls Try.prog 14 #[.agg #[.slice (some ad) n c, .int .i64 (q : Int)], .int .i64 mode, .int .i64 key] w (KeyPost (RefBack xs false q) xs q mode key w) := by
  have HKH := Lib.hid (fun b => keyS_head (xs := xs) (q := q) (mode := mode) (key := key) (b := b) (by omega) (by omega) hmode)
  have hub : UsesB xs q mode key → key = 23 := fun h => h.2.2.2.2
  have hub2 : UsesB xs q mode key → 0 < q := fun h => by have := h.2.1; omega
  have HN := Lib.hid hn; clear hn
  have hb := below2 w (.cells #[.slice (some ad) n c, .int .i64 (q : Int)] 24) (.cells #[.slice none 0 0, .int .i64 0] 24)
  have hA := Blk.new (w.alloc (.cells #[.slice (some ad) n c, .int .i64 (q : Int)] 24)) #[.slice none 0 0, .int .i64 0] 24
  have hP := (Blk.new w #[.slice (some ad) n c, .int .i64 (q : Int)] 24).alloc (.cells #[.slice none 0 0, .int .i64 0] 24)
  rw [World.size_alloc] at hA
  go_enter Try.func14, Try.ntmps14
  go_upto_region 3 with fail
  obtain ⟨w2, hW2⟩ : ∃ w2, w2 = (w.alloc (.cells #[.slice (some ad) n c, .int .i64 (q : Int)] 24)).alloc (.cells #[.slice none 0 0, .int .i64 0] 24) := ⟨_, rfl⟩
  rw [← hW2] at hb hA hP ⊢
  clear hW2
  have hain := ha
  have ha2 := ha.below hb
  obtain ⟨c0, c1, -, -⟩ := hP.two
  obtain ⟨d0, d1, f0, f1⟩ := hA.two
  have hz := hA.lt
  have hqc : q ≤ c := by omega
  have i0 : (q : Int) ≤ (c : Int) := by omega
  have i0' : (q : Int) ≤ (n : Int) := by omega
  go_cut [34] (fun v wx => v = .bool false ∧ wx = w2)
  case first =>
    rcases hmode with rfl | rfl
    all_goals
      go_wp2
      go_meet
      exact ⟨by simp; omega, rfl⟩
  obtain ⟨rfl, rfl⟩ := hcut
  obtain ⟨ar, har⟩ : ∃ ar, (if c = q then ad else ad.add q) = ar := ⟨_, rfl⟩
  have har2 : (if c = q then some ad else some (ad.add q)) = some ar := by rw [← har]; split <;> rfl
  have hIr : Ints wc (some ar) (xs.drop q) := by
    rw [← har]
    split
    · exact .inl (List.drop_eq_nil_of_le (by rw [HN.out]; omega))
    · exact ha2.dropA q
  have hIl : Ints wc (some ad) (xs.take q) := ha2.take q
  have L1 := Lib.hid (show (xs.take q).length = q by rw [List.length_take, HN.out]; omega)
  have L2 := Lib.hid (show (xs.drop q).length = n - q by rw [List.length_drop, HN.out])
  have HAR := Lib.hid har
  clear har
  go_upto_region 5 with fail
  go_quiet (fail)
  have hb0 := below_drewN (Below.refl wc.heap.size wc) nq
  obtain ⟨w3, hw3⟩ : ∃ w3, wc.drewN nq = w3 := ⟨_, rfl⟩
  have hP3 := hP.drewN nq
  have hA3 := hA.drewN nq
  have hIl := hIl.drewN nq
  have hIr := hIr.drewN nq
  have ha3 := ha2.drewN nq
  rw [hw3] at hP3 hA3 hIl hIr ha3 hb0 ⊢
  have hbx := below_then hb hb.size hb0
  clear hw3 c0 c1 d0 d1 f0 f1 hP hA hz hb0 hb ha2 ha
  obtain ⟨c0, c1, -, -⟩ := hP3.two
  obtain ⟨d0, d1, f0, f1⟩ := hA3.two
  have hz := hA3.lt
  have hz4 := hP3.lt
  have HK1 := Lib.hid (fun b => by rw [HKH.out b, if_pos hpr] : ∀ b, keyS xs q mode key b = if mode = 2 ∧ (q : Int) < xs.length then (xs.take q ++ [key] ++ xs.drop (q + 1), (q : Int) + 1, 0) else if xs.length = 200 then ([], 0, 8) else (xs.take q ++ [key] ++ xs.drop q, (q : Int) + 1, 0))
  obtain ⟨k1, k2⟩ := hpr
  have g1 : (key != 127) = true := by simpa using k2
  have hnb : ¬ UsesB xs q mode key := fun h => by have := hub h; omega
  go_upto_region 7 with fail
  have hI3 := ints1N w3 key
  obtain ⟨ov, hov⟩ : ∃ ov : Bool, ov = decide (mode = 2 ∧ (q : Int) < (n : Int)) := ⟨_, rfl⟩
  have HOV := Lib.hid hov
  clear hov
  obtain ⟨W3, hW3⟩ : ∃ W3, W3 = w3 := ⟨_, rfl⟩
  go_cut [58] (fun v wx => v = .bool ov ∧ wx = W3)
  case first =>
    by_cases hm2 : mode = 2
    · have g2 : (mode == 2) = true := by simpa using hm2
      by_cases hlt : q < n
      · have hb1 : ov = true := by rw [HOV.out]; simp [hm2, hlt]
        have i5 : 0 < n - q := by omega
        have i6 : (0 : Int) < ((n - q : Nat) : Int) := by omega
        clear hmode hm2
        go_wp2
        go_meet
        exact ⟨by rw [hb1], hW3.symm⟩
      · have hb1 : ov = false := by rw [HOV.out]; simp; omega
        have i5 : n - q = 0 := by omega
        clear hmode hm2
        go_wp2
        go_meet
        exact ⟨by rw [hb1], hW3.symm⟩
    · have g2 : (mode == 2) = false := by simpa using hm2
      have hb1 : ov = false := by rw [HOV.out]; simp [hm2]
      clear hmode hm2
      go_wp2
      go_meet
      exact ⟨by rw [hb1], hW3.symm⟩
  obtain ⟨rfl, hw⟩ := hcut
  obtain rfl : w3 = wc := (hw.trans hW3).symm
  clear hw hW3
  rcases hov : ov with _ | _
  · have hno : ¬ (mode = 2 ∧ (q : Int) < (n : Int)) := by have := HOV.out; rw [hov] at this; simpa using this.symm
    subst hov
    by_cases h2 : n = 200
    · have HK := Lib.hid (show keyS xs q mode key 0 = ([], 0, 8) by rw [HK1.out, if_neg (by rw [HN.out]; exact hno), if_pos (by rw [HN.out]; exact h2)])
      have g5 : ((n : Int) == 200) = true := by simp; omega
      obtain ⟨y0, y1, -, -⟩ := Blk.two ((hA3.set 0 (.slice none 0 0)).set 1 (.int .i64 0))
      have hbz := (hbx.setCell (p := ⟨w.heap.size + 1, 0, none⟩) (Nat.le_succ _) (.slice none 0 0)).setCell (p := ⟨w.heap.size + 1, 1, none⟩) (Nat.le_succ _) (.int .i64 0)
      clear hno h2
      go_wp2
      refine bodyPost_ret (v := .tuple #[.agg #[.slice none 0 0, .int .i64 0], .int .i64 8]) (by simp [results, Try.results14, go_sem, y0, y1]) rfl ?_
      exact KeyPost.of HK.out (fun h => absurd h hnb) (.inl rfl) rfl (by omega) hbz
    · have HK := Lib.hid (show keyS xs q mode key 0 = (xs.take q ++ [key] ++ xs.drop q, (q : Int) + 1, 0) by rw [HK1.out, if_neg (by rw [HN.out]; exact hno), if_neg (by rw [HN.out]; exact h2)])
      have g5 : ((n : Int) == 200) = false := by simp; omega
      have LT := Lib.hid L2.out
      clear hno h2
      have hcat := (catIn3 (w3.alloc (.cells #[.int .i64 key] 3)) 22 (n1 := 1) c 1 (c - q) (hIl.below (below1 _ _)) hI3 (hIr.below (below1 _ _)) L1.out rfl LT.out (by omega) (by simp) (by omega) (fun h => by cases h) (fun h => by cases h) (fun h => by cases h)).drew
      have hck := below2 w3 (.cells #[.int .i64 key] 3) (.cells #[.slice (some ad) q c, .slice (some ⟨w3.heap.size, 0, none⟩) 1 1, .slice (some ar) (n - q) (c - q)] 22)
      rw [World.size_alloc] at hcat
      have iw : IntKind.i64.wrap ((q : Int) + 1) = (q : Int) + 1 := by rw [IntKind.wrap_i64]; omega
      go_upto_region 11 with fail
      go_region_law (first | (go_simp; go_at_call 65; refine (slices_concat _ 3 _ _ _ _ _ hcat (by omega)).mono ?_; rintro e w8 ⟨v8, rfl, o8, hb8⟩; obtain ⟨a8, n8, c8, rfl⟩ := o8.form; have hres8 : Blk w8 (w.heap.size + 1) #[.slice none 0 0, .int .i64 0] 24 := Blk.below (((hA3.alloc _).alloc _).drew) hb8 (by show _ < ((w3.alloc _).alloc _).heap.size; rw [World.size_alloc, World.size_alloc]; omega); obtain ⟨kd0, kd1, kf0, kf1⟩ := hres8.two; have ke0 : w8.cell? ⟨w.heap.size, 1, none⟩ = some (.int .i64 (q : Int)) := below_keeps hb8 _ _ (below_keeps hck _ _ c1)))
      all_goals
        have hb9 : Below w3.heap.size w3 w8 := hck.drew.trans (hb8.mono (by show _ ≤ ((w3.alloc _).alloc _).heap.size; rw [World.size_alloc, World.size_alloc]; omega))
        rw [joinX3] at o8
        have hG := ((hres8.set 0 (.slice a8 n8 c8)).set 1 (.int .i64 ((q : Int) + 1)))
        obtain ⟨y0, y1, -, -⟩ := Blk.two hG
        have o8 := o8.mono (base' := w3.heap.size + 1) (by show w3.heap.size + 1 ≤ ((w3.alloc _).alloc _).heap.size; rw [World.size_alloc, World.size_alloc]; omega)
        have o9 := (o8.setCell (a := ⟨w.heap.size + 1, 0, none⟩) (by show w.heap.size + 1 < _; omega) (.slice a8 n8 c8)).setCell (a := ⟨w.heap.size + 1, 1, none⟩) (by show w.heap.size + 1 < _; omega) (.int .i64 ((q : Int) + 1))
        go_simp
        go_wp2
        refine bodyPost_ret (v := .tuple #[.agg #[.slice a8 n8 c8, .int .i64 ((q : Int) + 1)], .int .i64 0]) (by simp [results, Try.results14, go_sem, y0, y1]) rfl ?_
        refine KeyPost.of HK.out (fun h => absurd h hnb) o9.get.2.1 o9.get.1 (by have := o9.get.1; rw [List.length_append, List.length_append, L1.out, LT.out, List.length_singleton] at this; omega) ?_
        exact (((below_then hbx hbx.size hb9)).setCell (p := ⟨w.heap.size + 1, 0, none⟩) (Nat.le_succ _) _).setCell (p := ⟨w.heap.size + 1, 1, none⟩) (Nat.le_succ _) _
  · have hyes : mode = 2 ∧ (q : Int) < (n : Int) := by have := HOV.out; rw [hov] at this; simpa using this.symm
    subst hov
    have HK := Lib.hid (show keyS xs q mode key 0 = (xs.take q ++ [key] ++ xs.drop (q + 1), (q : Int) + 1, 0) by rw [HK1.out, if_pos (by rw [HN.out]; exact hyes)])
    have hqlt : q < n := by omega
    have i5 : 1 ≤ n - q := by omega
    have i6 : n - q ≤ c - q := by omega
    have i7 : 1 ≤ c - q := by omega
    obtain ⟨ar2, har3⟩ : ∃ ar2, (if c - q = 1 then ar else ar.add 1) = ar2 := ⟨_, rfl⟩
    have hadd1 : ar.add 1 = ⟨ar.block, ar.off + 1, none⟩ := by unfold Addr.add; simp
    have har4 : (if c - q = 1 then some ar else some ⟨ar.block, ar.off + 1, none⟩) = some ar2 := by rw [← hadd1, ← har3]; split <;> rfl
    have hIr2 : Ints w3 (some ar2) (xs.drop (q + 1)) := by
      rw [← har3]
      split
      · exact .inl (List.drop_eq_nil_of_le (by rw [HN.out]; omega))
      · have := hIr.dropA 1; rwa [List.drop_drop] at this
    have LT := Lib.hid (show (xs.drop (q + 1)).length = n - q - 1 by rw [List.length_drop, HN.out]; omega)
    clear har3 hadd1
    have hcat := (catIn3 (w3.alloc (.cells #[.int .i64 key] 3)) 22 (n1 := 1) c 1 (c - q - 1) (hIl.below (below1 _ _)) hI3 (hIr2.below (below1 _ _)) L1.out rfl LT.out (by omega) (by simp) (by omega) (fun h => by cases h) (fun h => by cases h) (fun h => by cases h)).drew
    have hck := below2 w3 (.cells #[.int .i64 key] 3) (.cells #[.slice (some ad) q c, .slice (some ⟨w3.heap.size, 0, none⟩) 1 1, .slice (some ar2) (n - q - 1) (c - q - 1)] 22)
    rw [World.size_alloc] at hcat
    have iw : IntKind.i64.wrap ((q : Int) + 1) = (q : Int) + 1 := by rw [IntKind.wrap_i64]; omega
    go_upto_region 11 with fail
    go_region_law (first | (go_simp; go_at_call 65; refine (slices_concat _ 3 _ _ _ _ _ hcat (by omega)).mono ?_; rintro e w8 ⟨v8, rfl, o8, hb8⟩; obtain ⟨a8, n8, c8, rfl⟩ := o8.form; have hres8 : Blk w8 (w.heap.size + 1) #[.slice none 0 0, .int .i64 0] 24 := Blk.below (((hA3.alloc _).alloc _).drew) hb8 (by show _ < ((w3.alloc _).alloc _).heap.size; rw [World.size_alloc, World.size_alloc]; omega); obtain ⟨kd0, kd1, kf0, kf1⟩ := hres8.two; have ke0 : w8.cell? ⟨w.heap.size, 1, none⟩ = some (.int .i64 (q : Int)) := below_keeps hb8 _ _ (below_keeps hck _ _ c1)))
    all_goals
      have hb9 : Below w3.heap.size w3 w8 := hck.drew.trans (hb8.mono (by show _ ≤ ((w3.alloc _).alloc _).heap.size; rw [World.size_alloc, World.size_alloc]; omega))
      rw [joinX3] at o8
      have hG := ((hres8.set 0 (.slice a8 n8 c8)).set 1 (.int .i64 ((q : Int) + 1)))
      obtain ⟨y0, y1, -, -⟩ := Blk.two hG
      have o8 := o8.mono (base' := w3.heap.size + 1) (by show w3.heap.size + 1 ≤ ((w3.alloc _).alloc _).heap.size; rw [World.size_alloc, World.size_alloc]; omega)
      have o9 := (o8.setCell (a := ⟨w.heap.size + 1, 0, none⟩) (by show w.heap.size + 1 < _; omega) (.slice a8 n8 c8)).setCell (a := ⟨w.heap.size + 1, 1, none⟩) (by show w.heap.size + 1 < _; omega) (.int .i64 ((q : Int) + 1))
      go_simp
      go_wp2
      refine bodyPost_ret (v := .tuple #[.agg #[.slice a8 n8 c8, .int .i64 ((q : Int) + 1)], .int .i64 0]) (by simp [results, Try.results14, go_sem, y0, y1]) rfl ?_
      refine KeyPost.of HK.out (fun h => absurd h hnb) o9.get.2.1 o9.get.1 (by have := o9.get.1; rw [List.length_append, List.length_append, L1.out, LT.out, List.length_singleton] at this; omega) ?_
      exact (((below_then hbx hbx.size hb9)).setCell (p := ⟨w.heap.size + 1, 0, none⟩) (Nat.le_succ _) _).setCell (p := ⟨w.heap.size + 1, 1, none⟩) (Nat.le_succ _) _

end Go.Proofs.Ytodgclaaalclkaa
