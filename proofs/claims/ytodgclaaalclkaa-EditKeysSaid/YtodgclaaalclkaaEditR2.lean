/- Contract of fairref.Key: the other keys. -/
import Derived.Test.YtodgclaaalclkaaEditS
namespace Go.Proofs.Ytodgclaaalclkaa
open Go.RowKit
set_option linter.unusedVariables false
set_option linter.unusedSimpArgs false

theorem refBack_range {l : List Int} {big : Bool} {q r : Int} (h : RefBack l big q r) (hq : 0 < q) : 0 ≤ r ∧ r ≤ q := by
  rcases h.1 with ⟨h1, h2, _⟩ | rfl <;> omega

set_option maxRecDepth 100000 in
set_option maxHeartbeats 2000000 in
theorem ref_key_other (ad : Addr) (n c q : Nat) (xs : List Int) (mode key : Int) (w : World) (ha : Ints w (some ad) xs) (hn : xs.length = n) (hc : n ≤ c) (hc2 : c ≤ 9223372036854775807) (hn200 : n ≤ 200) (hqn : q ≤ n) (hmode : mode = 1 ∨ mode = 2) (hpr : ¬ (32 ≤ key ∧ key ≠ 127)) :
    Calls Try.prog 14 #[.agg #[.slice (some ad) n c, .int .i64 (q : Int)], .int .i64 mode, .int .i64 key] w (KeyPost (RefBack xs false q) xs q mode key w) := by
  have HKH := Lib.hid (fun b => keyS_head (xs := xs) (q := q) (mode := mode) (key := key) (b := b) (by omega) (by omega) hmode)
  have hub : UsesB xs q mode key → key = 23 := fun h => h.2.2.2.2
  have hub2 : UsesB xs q mode key → 0 < q := fun h => by have := h.2.1; omega
  have HN := Lib.hid hn; clear hn
  have hb := below2 w (.cells #[.slice (some ad) n c, .int .i64 (q : Int)] 24) (.cells #[.slice none 0 0, .int .i64 0] 24)
  have hA := Blk.new (w.alloc (.cells #[.slice (some ad) n c, .int .i64 (q : Int)] 24)) #[.slice none 0 0, .int .i64 0] 24
  have hP := (Blk.new w #[.slice (some ad) n c, .int .i64 (q : Int)] 24).alloc (.cells #[.slice none 0 0, .int .i64 0] 24)
  rw [World.size_alloc] at hA
  go_enter Try.func14, Try.ntmps14
  go_upto_region 3 with fail
  obtain ⟨w2, hW2⟩ : ∃ w2, w2 = (w.alloc (.cells #[.slice (some ad) n c, .int .i64 (q : Int)] 24)).alloc (.cells #[.slice none 0 0, .int .i64 0] 24) := ⟨_, rfl⟩
  rw [← hW2] at hb hA hP ⊢
  clear hW2
  have hain := ha
  have ha2 := ha.below hb
  obtain ⟨c0, c1, -, -⟩ := hP.two
  obtain ⟨d0, d1, f0, f1⟩ := hA.two
  have hz := hA.lt
  have hqc : q ≤ c := by omega
  have i0 : (q : Int) ≤ (c : Int) := by omega
  have i0' : (q : Int) ≤ (n : Int) := by omega
  go_cut [34] (fun v wx => v = .bool false ∧ wx = w2)
  case first =>
    rcases hmode with rfl | rfl
    all_goals
      go_wp2
      go_meet
      exact ⟨by simp; omega, rfl⟩
  obtain ⟨rfl, rfl⟩ := hcut
  obtain ⟨ar, har⟩ : ∃ ar, (if c = q then ad else ad.add q) = ar := ⟨_, rfl⟩
  have har2 : (if c = q then some ad else some (ad.add q)) = some ar := by rw [← har]; split <;> rfl
  have hIr : Ints wc (some ar) (xs.drop q) := by
    rw [← har]
    split
    · exact .inl (List.drop_eq_nil_of_le (by rw [HN.out]; omega))
    · exact ha2.dropA q
  have hIl : Ints wc (some ad) (xs.take q) := ha2.take q
  have L1 := Lib.hid (show (xs.take q).length = q by rw [List.length_take, HN.out]; omega)
  have L2 := Lib.hid (show (xs.drop q).length = n - q by rw [List.length_drop, HN.out])
  have HAR := Lib.hid har
  clear har
  go_upto_region 5 with fail
  go_quiet (fail)
  have hb0 := below_drewN (Below.refl wc.heap.size wc) nq
  obtain ⟨w3, hw3⟩ : ∃ w3, wc.drewN nq = w3 := ⟨_, rfl⟩
  have hP3 := hP.drewN nq
  have hA3 := hA.drewN nq
  have hIl := hIl.drewN nq
  have hIr := hIr.drewN nq
  have ha3 := ha2.drewN nq
  rw [hw3] at hP3 hA3 hIl hIr ha3 hb0 ⊢
  have hbx := below_then hb hb.size hb0
  clear hw3 c0 c1 d0 d1 f0 f1 hP hA hz hb0 hb ha2 ha
  obtain ⟨c0, c1, -, -⟩ := hP3.two
  obtain ⟨d0, d1, f0, f1⟩ := hA3.two
  have hz := hA3.lt
  have hz4 := hP3.lt
  have HK1 := Lib.hid (fun b => by rw [HKH.out b, if_neg hpr] : ∀ b, keyS xs q mode key b = if key ≠ 8 ∧ key ≠ 127 ∧ key ≠ 21 ∧ key ≠ 23 then ([], 0, 9) else if (q : Int) = 0 then ([], 0, 5) else if key = 21 then (xs.drop q, 0, 0) else if key = 23 then (xs.take b.toNat ++ xs.drop q, b, 0) else if mode = 2 then (xs, (q : Int) - 1, 0) else (xs.take (q - 1) ++ xs.drop q, (q : Int) - 1, 0))
  obtain ⟨y0, y1, -, -⟩ := Blk.two ((hA3.set 0 (.slice none 0 0)).set 1 (.int .i64 0))
  have hbz := (hbx.setCell (p := ⟨w.heap.size + 1, 0, none⟩) (Nat.le_succ _) (.slice none 0 0)).setCell (p := ⟨w.heap.size + 1, 1, none⟩) (Nat.le_succ _) (.int .i64 0)
  by_cases h4 : key ≠ 8 ∧ key ≠ 127 ∧ key ≠ 21 ∧ key ≠ 23
  · have HK := Lib.hid (show keyS xs q mode key 0 = ([], 0, 9) by rw [HK1.out, if_pos h4])
    have hnb : ¬ UsesB xs q mode key := fun h => by have := hub h; omega
    obtain ⟨k1, k2, k3, k4⟩ := h4
    have g1 : (key != 8) = true := by simpa using k1
    have g2 : (key != 127) = true := by simpa using k2
    have g3 : (key != 21) = true := by simpa using k3
    have g4 : (key != 23) = true := by simpa using k4
    have k5 : ¬ 32 ≤ key := fun h => hpr ⟨h, k2⟩
    clear hpr
    go_wp2
    refine bodyPost_ret (v := .tuple #[.agg #[.slice none 0 0, .int .i64 0], .int .i64 9]) (by simp [results, Try.results14, go_sem, y0, y1]) rfl ?_
    exact KeyPost.of HK.out (fun h => absurd h hnb) (.inl rfl) rfl (by omega) hbz
  · have h5 : key = 8 ∨ key = 127 ∨ key = 21 ∨ key = 23 := by omega
    by_cases hq0 : q = 0
    · subst hq0
      have HK := Lib.hid (show keyS xs (0 : Nat) mode key 0 = ([], 0, 5) by rw [HK1.out, if_neg h4]; exact if_pos rfl)
      have hnb : ¬ UsesB xs (0 : Nat) mode key := fun h => by have := hub2 h; omega
      clear hpr h4
      rcases h5 with rfl | rfl | rfl | rfl
      all_goals
        go_wp2
        refine bodyPost_ret (v := .tuple #[.agg #[.slice none 0 0, .int .i64 0], .int .i64 5]) (by simp [results, Try.results14, go_sem, y0, y1]) rfl ?_
        exact KeyPost.of HK.out (fun h => absurd h hnb) (.inl rfl) rfl (by omega) hbz
    · have hqi : ¬ (q : Int) = 0 := by omega
      have HK2 := Lib.hid (fun b => by rw [HK1.out b, if_neg h4, if_neg hqi] : ∀ b, keyS xs q mode key b = if key = 21 then (xs.drop q, 0, 0) else if key = 23 then (xs.take b.toNat ++ xs.drop q, b, 0) else if mode = 2 then (xs, (q : Int) - 1, 0) else (xs.take (q - 1) ++ xs.drop q, (q : Int) - 1, 0))
      clear HK1
      by_cases h21 : key = 21
      · have HK := Lib.hid (show keyS xs q mode key 0 = (xs.take 0 ++ xs.drop q, 0, 0) by rw [HK2.out, if_pos h21]; simp)
        subst h21
        have hnb : ¬ UsesB xs q mode 21 := fun h => by have := hub h; omega
        clear hpr h4 h5
        have LF := Lib.hid (show (xs.take 0).length = 0 by rw [List.length_take, HN.out]; omega)
        have hcat := catIn2 w3 22 (n0 := 0) (n1 := n - q) c (c - q) (ha3.take 0) hIr LF.out L2.out (by omega) (by omega) (fun h => by cases h) (fun h => by cases h)
        have hck := below1 w3 (.cells #[.slice (some ad) 0 c, .slice (some ar) (n - q) (c - q)] 22)
        have i8 : 0 ≤ c := by omega
        go_wp2_with fail
        refine (slices_concat _ 2 _ _ _ _ _ hcat (by omega)).mono ?_
        rintro e w8 ⟨v8, rfl, o8, hb8⟩
        obtain ⟨a8, n8, c8, rfl⟩ := o8.form
        have hres8 : Blk w8 (w.heap.size + 1) #[.slice none 0 0, .int .i64 0] 24 := Blk.below (hA3.alloc _) hb8 (by rw [World.size_alloc]; omega)
        obtain ⟨kd0, kd1, kf0, kf1⟩ := hres8.two
        have hb9 := below_then hck hck.size hb8
        rw [joinX2] at o8
        have hG := ((hres8.set 0 (.slice a8 n8 c8)).set 1 (.int .i64 0))
        obtain ⟨y0, y1, -, -⟩ := Blk.two hG
        have o8 := o8.mono (base' := w3.heap.size + 1) (by rw [World.size_alloc]; omega)
        have o9 := (o8.setCell (a := ⟨w.heap.size + 1, 0, none⟩) (by show w.heap.size + 1 < _; omega) (.slice a8 n8 c8)).setCell (a := ⟨w.heap.size + 1, 1, none⟩) (by show w.heap.size + 1 < _; omega) (.int .i64 0)
        go_wp2
        refine bodyPost_ret (v := .tuple #[.agg #[.slice a8 n8 c8, .int .i64 0], .int .i64 0]) (by simp [results, Try.results14, go_sem, y0, y1]) rfl ?_
        refine KeyPost.of HK.out (fun h => absurd h hnb) o9.get.2.1 o9.get.1 (by have := o9.get.1; rw [List.length_append, LF.out, L2.out] at this; omega) ?_
        exact (((below_then hbx hbx.size hb9)).setCell (p := ⟨w.heap.size + 1, 0, none⟩) (Nat.le_succ _) _).setCell (p := ⟨w.heap.size + 1, 1, none⟩) (Nat.le_succ _) _
      · by_cases h23 : key = 23
        · have HK3 := Lib.hid (fun b => by rw [HK2.out b, if_neg h21, if_pos h23] : ∀ b, keyS xs q mode key b = (xs.take b.toNat ++ xs.drop q, b, 0))
          subst h23
          clear hpr h4 h5 h21
          go_wp2_with fail
          refine (ref_back (some ad) n c xs false (q : Int) _ ha3 HN.out (by omega) (by omega) (by omega)).mono ?_
          rintro e w5 ⟨r, rfl, hwb, rfl⟩
          obtain ⟨hr0, hr1⟩ := refBack_range hwb (by omega)
          obtain ⟨rn, rfl⟩ := Int.eq_ofNat_of_zero_le hr0
          have HK := Lib.hid (show keyS xs q mode 23 (rn : Int) = (xs.take rn ++ xs.drop q, (rn : Int), 0) by rw [HK3.out]; simp)
          have HWB := Lib.hid hwb
          have i9 : (rn : Int) ≤ (c : Int) := by omega
          clear hwb
          have LF := Lib.hid (show (xs.take rn).length = rn by rw [List.length_take, HN.out]; omega)
          have hcat := catIn2 w3 22 (n0 := rn) (n1 := n - q) c (c - q) (ha3.take rn) hIr LF.out L2.out (by omega) (by omega) (fun h => by cases h) (fun h => by cases h)
          have hck := below1 w3 (.cells #[.slice (some ad) rn c, .slice (some ar) (n - q) (c - q)] 22)
          have i8 : rn ≤ c := by omega
          go_wp2_with fail
          refine (slices_concat _ 2 _ _ _ _ _ hcat (by omega)).mono ?_
          rintro e w8 ⟨v8, rfl, o8, hb8⟩
          obtain ⟨a8, n8, c8, rfl⟩ := o8.form
          have hres8 : Blk w8 (w.heap.size + 1) #[.slice none 0 0, .int .i64 0] 24 := Blk.below (hA3.alloc _) hb8 (by rw [World.size_alloc]; omega)
          obtain ⟨kd0, kd1, kf0, kf1⟩ := hres8.two
          have hb9 := below_then hck hck.size hb8
          rw [joinX2] at o8
          have hG := ((hres8.set 0 (.slice a8 n8 c8)).set 1 (.int .i64 (rn : Int)))
          obtain ⟨y0, y1, -, -⟩ := Blk.two hG
          have o8 := o8.mono (base' := w3.heap.size + 1) (by rw [World.size_alloc]; omega)
          have o9 := (o8.setCell (a := ⟨w.heap.size + 1, 0, none⟩) (by show w.heap.size + 1 < _; omega) (.slice a8 n8 c8)).setCell (a := ⟨w.heap.size + 1, 1, none⟩) (by show w.heap.size + 1 < _; omega) (.int .i64 (rn : Int))
          go_wp2
          refine bodyPost_ret (v := .tuple #[.agg #[.slice a8 n8 c8, .int .i64 (rn : Int)], .int .i64 0]) (by simp [results, Try.results14, go_sem, y0, y1]) rfl ?_
          refine KeyPost.of HK.out (fun _ => HWB.out) o9.get.2.1 o9.get.1 (by have := o9.get.1; rw [List.length_append, LF.out, L2.out] at this; omega) ?_
          exact (((below_then hbx hbx.size hb9)).setCell (p := ⟨w.heap.size + 1, 0, none⟩) (Nat.le_succ _) _).setCell (p := ⟨w.heap.size + 1, 1, none⟩) (Nat.le_succ _) _
        · have h8 : key = 8 ∨ key = 127 := by omega
          have hnb : ¬ UsesB xs q mode key := fun h => by have := hub h; omega
          by_cases hm2 : mode = 2
          · have HK := Lib.hid (show keyS xs q mode key 0 = (xs, (q : Int) - 1, 0) by rw [HK2.out, if_neg h21, if_neg h23, if_pos hm2])
            have g2 : (mode == 2) = true := by simpa using hm2
            clear hpr h4 h5 h21 h23 hmode hm2
            rcases h8 with rfl | rfl
            all_goals
              go_wp2
              obtain ⟨z0, z1, -, -⟩ := Blk.two ((hA3.set 0 (.slice (some ad) n c)).set 1 (.int .i64 ((q : Int) - 1)))
              refine bodyPost_ret (v := .tuple #[.agg #[.slice (some ad) n c, .int .i64 ((q : Int) - 1)], .int .i64 0]) (by simp [results, Try.results14, go_sem, z0, z1]) rfl ?_
              have hbz := (hbx.setCell (p := ⟨w.heap.size + 1, 0, none⟩) (Nat.le_succ _) (.slice (some ad) n c)).setCell (p := ⟨w.heap.size + 1, 1, none⟩) (Nat.le_succ _) (.int .i64 ((q : Int) - 1))
              exact KeyPost.of HK.out (fun h => absurd h hnb) (hain.below hbz) HN.out (by omega) hbz
          · have HK := Lib.hid (show keyS xs q mode key 0 = (xs.take (q - 1) ++ xs.drop q, (q : Int) - 1, 0) by rw [HK2.out, if_neg h21, if_neg h23, if_neg hm2])
            have g2 : (mode == 2) = false := by simpa using hm2
            have i9 : (0 : Int) ≤ (q : Int) - 1 := by omega
            have i10 : (q : Int) - 1 ≤ (c : Int) := by omega
            have i11 : ((q : Int) - 1).toNat = q - 1 := by omega
            clear hpr h4 h5 h21 h23 hmode hm2
            rcases h8 with rfl | rfl
            all_goals
              have LF := Lib.hid (show (xs.take (q - 1)).length = (q - 1) by rw [List.length_take, HN.out]; omega)
              have hcat := catIn2 w3 22 (n0 := (q - 1)) (n1 := n - q) c (c - q) (ha3.take (q - 1)) hIr LF.out L2.out (by omega) (by omega) (fun h => by cases h) (fun h => by cases h)
              have hck := below1 w3 (.cells #[.slice (some ad) (q - 1) c, .slice (some ar) (n - q) (c - q)] 22)
              have i8 : (q - 1) ≤ c := by omega
              go_wp2_with fail
              refine (slices_concat _ 2 _ _ _ _ _ hcat (by omega)).mono ?_
              rintro e w8 ⟨v8, rfl, o8, hb8⟩
              obtain ⟨a8, n8, c8, rfl⟩ := o8.form
              have hres8 : Blk w8 (w.heap.size + 1) #[.slice none 0 0, .int .i64 0] 24 := Blk.below (hA3.alloc _) hb8 (by rw [World.size_alloc]; omega)
              obtain ⟨kd0, kd1, kf0, kf1⟩ := hres8.two
              have hb9 := below_then hck hck.size hb8
              rw [joinX2] at o8
              have hG := ((hres8.set 0 (.slice a8 n8 c8)).set 1 (.int .i64 ((q : Int) - 1)))
              obtain ⟨y0, y1, -, -⟩ := Blk.two hG
              have o8 := o8.mono (base' := w3.heap.size + 1) (by rw [World.size_alloc]; omega)
              have o9 := (o8.setCell (a := ⟨w.heap.size + 1, 0, none⟩) (by show w.heap.size + 1 < _; omega) (.slice a8 n8 c8)).setCell (a := ⟨w.heap.size + 1, 1, none⟩) (by show w.heap.size + 1 < _; omega) (.int .i64 ((q : Int) - 1))
              go_wp2
              refine bodyPost_ret (v := .tuple #[.agg #[.slice a8 n8 c8, .int .i64 ((q : Int) - 1)], .int .i64 0]) (by simp [results, Try.results14, go_sem, y0, y1]) rfl ?_
              refine KeyPost.of HK.out (fun h => absurd h hnb) o9.get.2.1 o9.get.1 (by have := o9.get.1; rw [List.length_append, LF.out, L2.out] at this; omega) ?_
              exact (((below_then hbx hbx.size hb9)).setCell (p := ⟨w.heap.size + 1, 0, none⟩) (Nat.le_succ _) _).setCell (p := ⟨w.heap.size + 1, 1, none⟩) (Nat.le_succ _) _


end Go.Proofs.Ytodgclaaalclkaa
