/- Contract of edit.Key at a line that lies in memory. -/
import Derived.Test.YtodgclaaalclkaaEditN
namespace Go.Proofs.Ytodgclaaalclkaa
open Go.RowKit
set_option linter.unusedVariables false
set_option linter.unusedSimpArgs false

theorem wordBack_range {l : List Int} {big : Bool} {q r : Int} (h : WordBack l big q r) (hq : 0 < q) (hql : q ≤ l.length) : 0 ≤ r ∧ r ≤ q := by
  obtain ⟨k1, ⟨h1, h2, h3⟩, h4⟩ := h
  rcases h4 with ⟨h5, rfl⟩ | ⟨h5, h6, h7, h8⟩
  · omega
  · refine ⟨?_, by omega⟩
    rcases Int.lt_or_le r 0 with hr | hr
    · have := h7 (-1) (by omega) (by omega)
      rw [kAt_out (.inl (by omega))] at this
      have := kAt_nn (l := l) (big := big) (k := k1) h5 (by omega)
      omega
    · exact hr

section
variable {xs : List Int} {q : Nat} {mode key b : Int} (h1 : xs.length ≤ 200) (h2 : q ≤ xs.length) (hm : mode = 1 ∨ mode = 2)
include h1 h2 hm
theorem keyS_head : keyS xs q mode key b = (if 32 ≤ key ∧ key ≠ 127 then
    if mode = 2 ∧ (q : Int) < xs.length then (xs.take q ++ [key] ++ xs.drop (q + 1), (q : Int) + 1, 0)
    else if xs.length = 200 then ([], 0, 8) else (xs.take q ++ [key] ++ xs.drop q, (q : Int) + 1, 0)
  else if key ≠ 8 ∧ key ≠ 127 ∧ key ≠ 21 ∧ key ≠ 23 then ([], 0, 9)
  else if (q : Int) = 0 then ([], 0, 5)
  else if key = 21 then (xs.drop q, 0, 0)
  else if key = 23 then (xs.take b.toNat ++ xs.drop q, b, 0)
  else if mode = 2 then (xs, (q : Int) - 1, 0)
  else (xs.take (q - 1) ++ xs.drop q, (q : Int) - 1, 0)) := by
  unfold keyS; rw [if_neg (by omega), if_neg (by omega), Int.toNat_natCast]
end

set_option maxRecDepth 100000 in
set_option maxHeartbeats 2000000 in
theorem edit_key_some (ad : Addr) (n c q : Nat) (xs : List Int) (mode key : Int) (w : World) (ha : Ints w (some ad) xs) (hn : xs.length = n) (hc : n ≤ c) (hc2 : c ≤ 9223372036854775807) (hn200 : n ≤ 200) (hqn : q ≤ n) (hmode : mode = 1 ∨ mode = 2) :
    Calls Try.prog 13 #[.agg #[.slice (some ad) n c, .int .i64 (q : Int)], .int .i64 mode, .int .i64 key] w (KeyPost (WordBack xs false q) xs q mode key w) := by
  have HKH := Lib.hid (fun b => keyS_head (xs := xs) (q := q) (mode := mode) (key := key) (b := b) (by omega) (by omega) hmode)
  have hub : UsesB xs q mode key → key = 23 := fun h => h.2.2.2.2
  have hub2 : UsesB xs q mode key → 0 < q := fun h => by have := h.2.1; omega
  have HN := Lib.hid hn; clear hn
  have hb := below2 w (.cells #[.slice (some ad) n c, .int .i64 (q : Int)] 24) (.cells #[.slice none 0 0, .int .i64 0] 24)
  have hA := Blk.new (w.alloc (.cells #[.slice (some ad) n c, .int .i64 (q : Int)] 24)) #[.slice none 0 0, .int .i64 0] 24
  have hP := (Blk.new w #[.slice (some ad) n c, .int .i64 (q : Int)] 24).alloc (.cells #[.slice none 0 0, .int .i64 0] 24)
  rw [World.size_alloc] at hA
  go_enter Try.func13, Try.ntmps13
  go_upto_region 4 with fail
  obtain ⟨w2, hW2⟩ : ∃ w2, w2 = (w.alloc (.cells #[.slice (some ad) n c, .int .i64 (q : Int)] 24)).alloc (.cells #[.slice none 0 0, .int .i64 0] 24) := ⟨_, rfl⟩
  rw [← hW2] at hb hA hP ⊢
  clear hW2
  have ha2 := ha.below hb
  obtain ⟨c0, c1, -, -⟩ := hP.two
  obtain ⟨d0, d1, f0, f1⟩ := hA.two
  have hz := hA.lt
  go_cut [34] (fun v wx => v = .bool false ∧ wx = w2)
  case first =>
    rcases hmode with rfl | rfl
    all_goals
      go_wp2
      go_meet
      exact ⟨by simp; omega, rfl⟩
  obtain ⟨rfl, rfl⟩ := hcut
  go_upto_region 6 with fail
  go_quiet (fail)
  go_upto_block 0 with fail
  have hb0 := below_drewN (Below.refl wc.heap.size wc) nq
  go_cut [9, 10, 11] (fun f t x wx => ∃ (fn tn : Nat) (a3 : Option Addr) (n3 c3 : Nat), f = .int .i64 (fn : Int) ∧ t = .int .i64 (tn : Int) ∧ x = .slice a3 n3 c3 ∧ Ready w wc wx (WordBack xs false q) (some ad) n c xs q mode key fn tn a3 n3 c3)
  case first =>
    by_cases hpr : 32 ≤ key ∧ key ≠ 127
    · have HK1 := Lib.hid (fun b => by rw [HKH.out b, if_pos hpr] : ∀ b, keyS xs q mode key b = if mode = 2 ∧ (q : Int) < xs.length then (xs.take q ++ [key] ++ xs.drop (q + 1), (q : Int) + 1, 0) else if xs.length = 200 then ([], 0, 8) else (xs.take q ++ [key] ++ xs.drop q, (q : Int) + 1, 0))
      obtain ⟨k1, k2⟩ := hpr
      have g1 : (key != 127) = true := by simpa using k2
      have hnb : ¬ UsesB xs q mode key := fun h => by have := hub h; omega
      have hI3 := ints1N (wc.drewN nq) key
      by_cases hov : mode = 2 ∧ (q : Int) < (n : Int)
      · have HK := Lib.hid (show keyS xs q mode key 0 = (xs.take q ++ [key] ++ xs.drop (q + 1), (q : Int) + ((1 : Nat) : Int), 0) by rw [HK1.out, if_pos (by rw [HN.out]; exact hov)]; rfl)
        obtain ⟨m1, m2⟩ := hov
        have g2 : (mode == 2) = true := by simpa using m1
        clear hmode m1
        go_wp2
        go_meet
        exact ⟨q, q + 1, _, 1, 1, rfl, by go_num, rfl, by omega, by omega, ⟨[key], 0, hI3, rfl, HK.out, fun h => absurd h hnb⟩, by omega, (fun h => by cases h), (hP.drewN nq).alloc _, (hA.drewN nq).alloc _, hb0.alloc hb0.size _⟩
      · by_cases h2 : n = 200
        · have HK := Lib.hid (show keyS xs q mode key 0 = ([], 0, 8) by rw [HK1.out, if_neg (by rw [HN.out]; exact hov), if_pos (by rw [HN.out]; exact h2)])
          have g5 : ((n : Int) == 200) = true := by simp; omega
          have hb4 := hb0.alloc hb0.size (.cells #[.int .i64 key] 3)
          have hA4 := (hA.drewN nq).alloc (.cells #[.int .i64 key] 3)
          obtain ⟨e0, e1, e2, e3⟩ := hA4.two
          obtain ⟨y0, y1, -, -⟩ := Blk.two ((hA4.set 0 (.slice none 0 0)).set 1 (.int .i64 0))
          have HBZ := Lib.hid ((below_then hb hb.size hb4).setCell (p := ⟨w.heap.size + 1, 0, none⟩) (Nat.le_succ _) (.slice none 0 0) |>.setCell (p := ⟨w.heap.size + 1, 1, none⟩) (Nat.le_succ _) (.int .i64 0))
          have i3 : (n : Int) = 200 := by omega
          by_cases hm2 : mode = 2
          · have g2 : (mode == 2) = true := by simpa using hm2
            have g3 : ¬ (q : Int) < (n : Int) := fun h => hov ⟨hm2, h⟩
            have g4 : ¬ q < n := by omega
            clear hmode hov hm2 i3 h2
            go_wp2
            refine bodyPost_ret (v := .tuple #[.agg #[.slice none 0 0, .int .i64 0], .int .i64 8]) (by simp [results, Try.results13, go_sem, y0, y1]) rfl ?_
            exact KeyPost.of HK.out (fun h => absurd h hnb) (.inl rfl) rfl (by omega) HBZ.out
          · have g2 : (mode == 2) = false := by simpa using hm2
            clear hmode hov hm2 i3 h2
            go_wp2
            refine bodyPost_ret (v := .tuple #[.agg #[.slice none 0 0, .int .i64 0], .int .i64 8]) (by simp [results, Try.results13, go_sem, y0, y1]) rfl ?_
            exact KeyPost.of HK.out (fun h => absurd h hnb) (.inl rfl) rfl (by omega) HBZ.out
        · have HK := Lib.hid (show keyS xs q mode key 0 = (xs.take q ++ [key] ++ xs.drop q, (q : Int) + ((1 : Nat) : Int), 0) by rw [HK1.out, if_neg (by rw [HN.out]; exact hov), if_neg (by rw [HN.out]; exact h2)]; rfl)
          have i2 : ((n : Int) == 200) = false := by simp; omega
          by_cases hm2 : mode = 2
          · have g2 : (mode == 2) = true := by simpa using hm2
            have g4 : q = n := by have : ¬ (q : Int) < (n : Int) := fun h => hov ⟨hm2, h⟩; omega
            subst g4
            clear hmode hov hm2
            go_wp2
            go_meet
            exact ⟨q, q, _, 1, 1, rfl, rfl, rfl, by omega, by omega, ⟨[key], 0, hI3, rfl, HK.out, fun h => absurd h hnb⟩, by omega, (fun h => by cases h), (hP.drewN nq).alloc _, (hA.drewN nq).alloc _, hb0.alloc hb0.size _⟩
          · have g2 : (mode == 2) = false := by simpa using hm2
            clear hmode hov hm2
            go_wp2
            go_meet
            exact ⟨q, q, _, 1, 1, rfl, rfl, rfl, by omega, by omega, ⟨[key], 0, hI3, rfl, HK.out, fun h => absurd h hnb⟩, by omega, (fun h => by cases h), (hP.drewN nq).alloc _, (hA.drewN nq).alloc _, hb0.alloc hb0.size _⟩
    · have HK1 := Lib.hid (fun b => by rw [HKH.out b, if_neg hpr] : ∀ b, keyS xs q mode key b = if key ≠ 8 ∧ key ≠ 127 ∧ key ≠ 21 ∧ key ≠ 23 then ([], 0, 9) else if (q : Int) = 0 then ([], 0, 5) else if key = 21 then (xs.drop q, 0, 0) else if key = 23 then (xs.take b.toNat ++ xs.drop q, b, 0) else if mode = 2 then (xs, (q : Int) - 1, 0) else (xs.take (q - 1) ++ xs.drop q, (q : Int) - 1, 0))
      obtain ⟨y0, y1, -, -⟩ := Blk.two (((hA.drewN nq).set 0 (.slice none 0 0)).set 1 (.int .i64 0))
      have hbz := (below_drewN hb nq).setCell (p := ⟨w.heap.size + 1, 0, none⟩) (Nat.le_succ _) (.slice none 0 0) |>.setCell (p := ⟨w.heap.size + 1, 1, none⟩) (Nat.le_succ _) (.int .i64 0)
      by_cases h4 : key ≠ 8 ∧ key ≠ 127 ∧ key ≠ 21 ∧ key ≠ 23
      · have HK := Lib.hid (show keyS xs q mode key 0 = ([], 0, 9) by rw [HK1.out, if_pos h4])
        have hnb : ¬ UsesB xs q mode key := fun h => by have := hub h; omega
        obtain ⟨k1, k2, k3, k4⟩ := h4
        have g1 : (key != 8) = true := by simpa using k1
        have g2 : (key != 127) = true := by simpa using k2
        have g3 : (key != 21) = true := by simpa using k3
        have g4 : (key != 23) = true := by simpa using k4
        have k5 : ¬ 32 ≤ key := fun h => hpr ⟨h, k2⟩
        clear hpr
        go_wp2
        refine bodyPost_ret (v := .tuple #[.agg #[.slice none 0 0, .int .i64 0], .int .i64 9]) (by simp [results, Try.results13, go_sem, y0, y1]) rfl ?_
        exact KeyPost.of HK.out (fun h => absurd h hnb) (.inl rfl) rfl (by omega) hbz
      · have h5 : key = 8 ∨ key = 127 ∨ key = 21 ∨ key = 23 := by omega
        by_cases hq0 : q = 0
        · subst hq0
          have HK := Lib.hid (show keyS xs (0 : Nat) mode key 0 = ([], 0, 5) by rw [HK1.out, if_neg h4]; exact if_pos rfl)
          have hnb : ¬ UsesB xs (0 : Nat) mode key := fun h => by have := hub2 h; omega
          clear hpr h4
          rcases h5 with rfl | rfl | rfl | rfl
          all_goals
            go_wp2
            refine bodyPost_ret (v := .tuple #[.agg #[.slice none 0 0, .int .i64 0], .int .i64 5]) (by simp [results, Try.results13, go_sem, y0, y1]) rfl ?_
            exact KeyPost.of HK.out (fun h => absurd h hnb) (.inl rfl) rfl (by omega) hbz
        · have hqi : ¬ (q : Int) = 0 := by omega
          have HK2 := Lib.hid (fun b => by rw [HK1.out b, if_neg h4, if_neg hqi] : ∀ b, keyS xs q mode key b = if key = 21 then (xs.drop q, 0, 0) else if key = 23 then (xs.take b.toNat ++ xs.drop q, b, 0) else if mode = 2 then (xs, (q : Int) - 1, 0) else (xs.take (q - 1) ++ xs.drop q, (q : Int) - 1, 0))
          by_cases h21 : key = 21
          · have HK := Lib.hid (show keyS xs q mode key 0 = (xs.take 0 ++ [] ++ xs.drop q, ((0 : Nat) : Int) + ((0 : Nat) : Int), 0) by rw [HK2.out, if_pos h21]; simp)
            subst h21
            have hnb : ¬ UsesB xs q mode 21 := fun h => by have := hub h; omega
            clear hpr h4 h5
            go_wp2
            go_meet
            exact ⟨0, q, _, 0, 0, rfl, rfl, rfl, by omega, by omega, ⟨[], 0, .inl rfl, rfl, HK.out, fun h => absurd h hnb⟩, by omega, fun _ => rfl, hP.drewN nq, hA.drewN nq, hb0⟩
          · by_cases h23 : key = 23
            · have HK3 := Lib.hid (fun b => by rw [HK2.out b, if_neg h21, if_pos h23] : ∀ b, keyS xs q mode key b = (xs.take b.toNat ++ xs.drop q, b, 0))
              subst h23
              clear hpr h4 h5 h21
              go_wp2_with fail
              refine (word_back_ok (some ad) n c xs false (q : Int) _ (ha2.drewN nq) HN.out (by omega) (by omega) (by omega)).mono ?_
              rintro e w5 ⟨r, rfl, hwb, hb5⟩
              obtain ⟨hr0, hr1⟩ := wordBack_range hwb (by omega) (by rw [HN.out]; omega)
              obtain ⟨rn, rfl⟩ := Int.eq_ofNat_of_zero_le hr0
              have HK := Lib.hid (show keyS xs q mode 23 (rn : Int) = (xs.take rn ++ [] ++ xs.drop q, (rn : Int) + ((0 : Nat) : Int), 0) by rw [HK3.out]; simp)
              have HWB := Lib.hid hwb
              clear hwb
              have hb6 : Below wc.heap.size wc w5 := below_then hb0 hb0.size hb5
              go_wp2
              go_meet
              exact ⟨rn, q, _, 0, 0, rfl, rfl, rfl, by omega, by omega, ⟨[], rn, .inl rfl, rfl, HK.out, fun _ => HWB.out⟩, by omega, fun _ => rfl, hP.below hb6 hP.lt, hA.below hb6 hA.lt, hb6⟩
            · have h8 : key = 8 ∨ key = 127 := by omega
              have hnb : ¬ UsesB xs q mode key := fun h => by have := hub h; omega
              by_cases hm2 : mode = 2
              · have HK := Lib.hid (show keyS xs q mode key 0 = (xs, (q : Int) - 1, 0) by rw [HK2.out, if_neg h21, if_neg h23, if_pos hm2])
                have g2 : (mode == 2) = true := by simpa using hm2
                clear hpr h4 h5 h21 h23 hmode hm2
                rcases h8 with rfl | rfl
                all_goals
                  go_wp2_with fail
                  refine (slices_clone (some ad) n c xs _ (ha2.drewN nq) HN.out (by omega) (fun h => by cases h)).mono ?_
                  rintro e w5 ⟨v5, rfl, o5, hb5⟩
                  obtain ⟨a5, n5, c5, rfl⟩ := o5.form
                  have hb6 : Below wc.heap.size wc w5 := below_then hb0 hb0.size hb5
                  have hA5 := hA.below hb6 hA.lt
                  obtain ⟨e0, e1, e2, e3⟩ := hA5.two
                  go_wp2
                  obtain ⟨z0, z1, -, -⟩ := Blk.two ((hA5.set 0 (.slice a5 n5 c5)).set 1 (.int .i64 ((q : Int) - 1)))
                  refine bodyPost_ret (v := .tuple #[.agg #[.slice a5 n5 c5, .int .i64 ((q : Int) - 1)], .int .i64 0]) (by simp [results, Try.results13, go_sem, z0, z1]) rfl ?_
                  have o6 := (o5.setCell (a := ⟨w.heap.size + 1, 0, none⟩) (show w.heap.size + 1 < wc.heap.size from hz) (.slice a5 n5 c5)).setCell (a := ⟨w.heap.size + 1, 1, none⟩) (show w.heap.size + 1 < wc.heap.size from hz) (.int .i64 ((q : Int) - 1))
                  exact KeyPost.of HK.out (fun h => absurd h hnb) o6.get.2.1 o6.get.1 (by have := o6.get.1; have := HN.out; omega) ((below_then hb hb.size hb6).setCell (p := ⟨w.heap.size + 1, 0, none⟩) (Nat.le_succ _) _ |>.setCell (p := ⟨w.heap.size + 1, 1, none⟩) (Nat.le_succ _) _)
              · have HK := Lib.hid (show keyS xs q mode key 0 = (xs.take (q - 1) ++ [] ++ xs.drop q, ((q - 1 : Nat) : Int) + ((0 : Nat) : Int), 0) by rw [HK2.out, if_neg h21, if_neg h23, if_neg hm2]; simp; omega)
                have g2 : (mode == 2) = false := by simpa using hm2
                clear hpr h4 h5 h21 h23 hmode hm2
                rcases h8 with rfl | rfl
                all_goals
                  go_wp2
                  go_meet
                  exact ⟨q - 1, q, _, 0, 0, by go_num, rfl, rfl, by omega, by omega, ⟨[], 0, .inl rfl, rfl, HK.out, fun h => absurd h hnb⟩, by omega, fun _ => rfl, hP.drewN nq, hA.drewN nq, hb0⟩
  case rest =>
    obtain ⟨fn, tn, a3, n3, c3, rfl, rfl, rfl, hR⟩ := hcut
    have HR := Lib.hid hR
    have hbx := below_then hb hb.size HR.out.bel
    have hac := ha2.below HR.out.bel
    clear c0 c1 d0 d1 f0 f1 hP hA hz hb ha ha2 hb0
    obtain ⟨c0, c1, -, -⟩ := hR.box.two
    have hres := hR.res
    obtain ⟨d0, d1, f0, f1⟩ := hres.two
    have hz := hres.lt
    have hf := hR.f1
    have ht := hR.t1
    have hn3 := hR.top
    clear hR
    go_upto_region 25 with fail
    obtain ⟨ys, b, hI3, hl3, hkey, hbk⟩ := HR.out.pieces
    have H3 := Lib.hid HR.out.nil
    have HL3 := Lib.hid hl3; have HK := Lib.hid hkey; have HBK := Lib.hid hbk
    clear hl3 hkey hbk HR HKH hub hub2
    have L1 := Lib.hid (show (xs.take fn).length = fn by rw [List.length_take, HN.out]; omega)
    have L2 := Lib.hid (show (xs.drop tn).length = n - tn by rw [List.length_drop, HN.out])
    have hfc : fn ≤ c := by omega
    have i1 : (fn : Int) ≤ (c : Int) := by omega
    obtain ⟨aa, haa⟩ : ∃ aa, (if c = tn then some ad else some (ad.add tn)) = aa := ⟨_, rfl⟩
    have hI2 : Ints wc aa (xs.drop tn) := by
      rw [← haa]
      split
      · exact .inl (List.drop_eq_nil_of_le (by rw [HN.out]; omega))
      · exact hac.dropA tn
    have hz2 : aa = none → n - tn = 0 := by
      rw [← haa]; intro h; split at h <;> cases h
    have hcat := (catIn3 wc 22 c c3 (c - tn) (hac.take fn) hI3 hI2 L1.out HL3.out L2.out (by omega) (by omega) (by omega) (fun h => by cases h) H3.out hz2).drew
    have hck := below1 wc (.cells #[.slice (some ad) fn c, .slice a3 n3 c3, .slice aa (n - tn) (c - tn)] 22)
    have HKL := Lib.hid (show ((xs.take fn ++ ys ++ xs.drop tn).length) = fn + n3 + (n - tn) by rw [List.length_append, List.length_append, L1.out, HL3.out, L2.out])
    clear hI2 hI3 hac hz2
    have iw : IntKind.i64.wrap ((fn : Int) + (n3 : Int)) = (fn : Int) + (n3 : Int) := by rw [IntKind.wrap_i64]; omega
    go_region_law (first | (go_simp; go_at_call 65; refine (slices_concat _ 3 _ _ _ _ _ hcat (by omega)).mono ?_; rintro e w8 ⟨v8, rfl, o8, hb8⟩; obtain ⟨a8, n8, c8, rfl⟩ := o8.form; have hres8 : Blk w8 (w.heap.size + 1) #[.slice none 0 0, .int .i64 0] 24 := Blk.below ((hres.alloc _).drew) hb8 (by show _ < (wc.alloc _).heap.size; rw [World.size_alloc]; omega); obtain ⟨kd0, kd1, kf0, kf1⟩ := hres8.two))
    all_goals
      have hb9 : Below wc.heap.size wc w8 := hck.drew.trans (hb8.mono (by show _ ≤ (wc.alloc _).heap.size; rw [World.size_alloc]; omega))
      rw [joinX3] at o8
      have hG := ((hres8.set 0 (.slice a8 n8 c8)).set 1 (.int .i64 ((fn : Int) + (n3 : Int))))
      obtain ⟨y0, y1, -, -⟩ := Blk.two hG
      have o8 := o8.mono (base' := wc.heap.size + 1) (by show wc.heap.size + 1 ≤ (wc.alloc _).heap.size; rw [World.size_alloc]; omega)
      have o9 := (o8.setCell (a := ⟨w.heap.size + 1, 0, none⟩) (by show w.heap.size + 1 < _; omega) (.slice a8 n8 c8)).setCell (a := ⟨w.heap.size + 1, 1, none⟩) (by show w.heap.size + 1 < _; omega) (.int .i64 ((fn : Int) + (n3 : Int)))
      go_simp
      go_wp2
      refine bodyPost_ret (v := .tuple #[.agg #[.slice a8 n8 c8, .int .i64 ((fn : Int) + (n3 : Int))], .int .i64 0]) (by simp [results, Try.results13, go_sem, y0, y1]) rfl ?_
      refine KeyPost.of HK.out HBK.out o9.get.2.1 o9.get.1 (by have := o9.get.1; have := HKL.out; omega) ?_
      exact (((below_then hbx hbx.size hb9)).setCell (p := ⟨w.heap.size + 1, 0, none⟩) (Nat.le_succ _) _).setCell (p := ⟨w.heap.size + 1, 1, none⟩) (Nat.le_succ _) _

end Go.Proofs.Ytodgclaaalclkaa
