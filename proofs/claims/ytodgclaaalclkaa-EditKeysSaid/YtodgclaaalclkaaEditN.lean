/- Contract of edit.Key at the nil line. -/
import Derived.Test.YtodgclaaalclkaaEdit
namespace Go.Proofs.Ytodgclaaalclkaa
open Go.RowKit
set_option linter.unusedVariables false
set_option linter.unusedSimpArgs false

theorem keyS_nil_ins (mode key b : Int) (hm : mode = 1 ∨ mode = 2) (h : 32 ≤ key ∧ key ≠ 127) : keyS [] 0 mode key b = ([key], 1, 0) := by
  unfold keyS; rw [if_neg (by simp), if_neg (by simp; omega), if_pos h, if_neg (by simp), if_neg (by simp)]; simp
theorem keyS_nil_key (mode key b : Int) (hm : mode = 1 ∨ mode = 2) (h : ¬ (32 ≤ key ∧ key ≠ 127)) (h2 : key ≠ 8 ∧ key ≠ 127 ∧ key ≠ 21 ∧ key ≠ 23) : keyS [] 0 mode key b = ([], 0, 9) := by
  unfold keyS; rw [if_neg (by simp), if_neg (by simp; omega), if_neg h, if_pos h2]
theorem keyS_nil_fail (mode key b : Int) (hm : mode = 1 ∨ mode = 2) (h : ¬ (32 ≤ key ∧ key ≠ 127)) (h2 : ¬ (key ≠ 8 ∧ key ≠ 127 ∧ key ≠ 21 ∧ key ≠ 23)) : keyS [] 0 mode key b = ([], 0, 5) := by
  unfold keyS; rw [if_neg (by simp), if_neg (by simp; omega), if_neg h, if_neg h2, if_pos rfl]

theorem ints1N (w : World) (x : Int) : Ints (w.alloc (.cells #[.int .i64 x] 3)) (some ⟨w.heap.size, 0, none⟩) [x] :=
  .inr ⟨_, _, rfl, fun i hi => by
    obtain rfl : i = 0 := by simpa using hi
    exact cell_new1 w (.int .i64 x) 3⟩

set_option maxRecDepth 100000 in
set_option maxHeartbeats 1000000 in
theorem edit_key_nil (mode key : Int) (w : World) (hmode : mode = 1 ∨ mode = 2) :
    Calls Try.prog 13 #[.agg #[.slice none 0 0, .int .i64 0], .int .i64 mode, .int .i64 key] w (KeyPost (WordBack [] false 0) [] 0 mode key w) := by
  have hb := below2 w (.cells #[.slice none 0 0, .int .i64 0] 24) (.cells #[.slice none 0 0, .int .i64 0] 24)
  have hA := Blk.new (w.alloc (.cells #[.slice none 0 0, .int .i64 0] 24)) #[.slice none 0 0, .int .i64 0] 24
  have hP := (Blk.new w #[.slice none 0 0, .int .i64 0] 24).alloc (.cells #[.slice none 0 0, .int .i64 0] 24)
  rw [World.size_alloc] at hA
  have hnb : ¬ UsesB [] 0 mode key := fun h => by have := h.2.1; omega
  go_enter Try.func13, Try.ntmps13
  go_upto_region 4 with fail
  obtain ⟨w2, hW2⟩ : ∃ w2, w2 = (w.alloc (.cells #[.slice none 0 0, .int .i64 0] 24)).alloc (.cells #[.slice none 0 0, .int .i64 0] 24) := ⟨_, rfl⟩
  rw [← hW2] at hb hA hP ⊢
  clear hW2
  obtain ⟨c0, c1, -, -⟩ := hP.two
  obtain ⟨d0, d1, f0, f1⟩ := hA.two
  have hz := hA.lt
  go_cut [34] (fun v wx => v = .bool false ∧ wx = w2)
  case first =>
    rcases hmode with rfl | rfl
    all_goals
      go_wp2
      go_meet
      exact ⟨rfl, rfl⟩
  case rest =>
    obtain ⟨rfl, rfl⟩ := hcut
    go_upto_region 6 with fail
    go_quiet (fail)
    by_cases hpr : 32 ≤ key ∧ key ≠ 127
    · have HK := Lib.hid (keyS_nil_ins mode key 0 hmode hpr)
      obtain ⟨k1, k2⟩ := hpr
      have g1 : (key != 127) = true := by simpa using k2
      have hI3 := ints1N (wc.drewN nq) key
      have hres := (hA.drewN nq).alloc (.cells #[.int .i64 key] 3)
      have hbw := (below_drewN (below1 wc (.cells #[.int .i64 key] 3)) nq)
      obtain ⟨mb, hmb⟩ : ∃ mb : Bool, (mode == 2) = mb := ⟨_, rfl⟩
      go_upto_region 25 with fail
      all_goals
        obtain ⟨w3, hw3⟩ : ∃ w3, w3 = (wc.drewN nq).alloc (.cells #[.int .i64 key] 3) := ⟨_, rfl⟩
        have hB3 : Below wc.heap.size wc w3 := by rw [hw3]; exact (below_drewN (Below.refl _ _) nq).alloc (Nat.le_refl _) _
        rw [show (wc.drewN nq).heap.size = wc.heap.size from rfl] at hI3
        rw [← hw3] at hI3 hres ⊢
        have e0 := below_keeps hB3 _ _ c0
        have hz3 : w.heap.size + 1 < w3.heap.size := hres.lt
        have hbx := below_then hb hb.size hB3
        clear hw3 c0 c1 d0 d1 f0 f1 hA hP hb
        have hcat := (catIn3 w3 22 (n0 := 0) (n1 := 1) (n2 := 0) 0 1 0 (Ints.nil w3 none) hI3 (Ints.nil w3 none) rfl rfl rfl (by simp) (by simp) (by simp) (fun _ => rfl) (fun h => by cases h) (fun _ => rfl)).drew
        have hck := below1 w3 (.cells #[.slice none 0 0, .slice (some ⟨wc.heap.size, 0, none⟩) 1 1, .slice none 0 0] 22)
        generalize wc.heap.size = G3 at hcat hck hI3 ⊢
        have iw : IntKind.i64.wrap (1 : Int) = 1 := by rw [IntKind.wrap_i64]; omega
        go_region_law (first | (go_simp; go_at_call 65; refine (slices_concat _ 3 _ _ _ _ _ hcat (by omega)).mono ?_; rintro e w8 ⟨v8, rfl, o8, hb8⟩; obtain ⟨a8, n8, c8, rfl⟩ := o8.form; have hres8 : Blk w8 (w.heap.size + 1) #[.slice none 0 0, .int .i64 0] 24 := Blk.below ((hres.alloc _).drew) hb8 (by show _ < (w3.alloc _).heap.size; rw [World.size_alloc]; omega); obtain ⟨kd0, kd1, kf0, kf1⟩ := hres8.two))
        all_goals
          have hb9 : Below w3.heap.size w3 w8 := hck.drew.trans (hb8.mono (by show _ ≤ (w3.alloc _).heap.size; rw [World.size_alloc]; omega))
          rw [joinX3] at o8
          have hG := ((hres8.set 0 (.slice a8 n8 c8)).set 1 (.int .i64 1))
          obtain ⟨y0, y1, -, -⟩ := Blk.two hG
          have o8 := o8.mono (base' := w3.heap.size + 1) (by show w3.heap.size + 1 ≤ (w3.alloc _).heap.size; rw [World.size_alloc]; omega)
          have o9 := (o8.setCell (a := ⟨w.heap.size + 1, 0, none⟩) (by show w.heap.size + 1 < _; omega) (.slice a8 n8 c8)).setCell (a := ⟨w.heap.size + 1, 1, none⟩) (by show w.heap.size + 1 < _; omega) (.int .i64 1)
          go_simp
          go_wp2
          refine bodyPost_ret (v := .tuple #[.agg #[.slice a8 n8 c8, .int .i64 1], .int .i64 0]) (by simp [results, Try.results13, go_sem, y0, y1]) rfl ?_
          refine KeyPost.of HK.out (fun h => absurd h hnb) (by simpa using o9.get.2.1) (by simpa using o9.get.1) (by have := o9.get.1; simp at this; omega) ?_
          exact (((below_then hbx hbx.size hb9)).setCell (p := ⟨w.heap.size + 1, 0, none⟩) (Nat.le_succ _) _).setCell (p := ⟨w.heap.size + 1, 1, none⟩) (Nat.le_succ _) _
    · by_cases h4 : key ≠ 8 ∧ key ≠ 127 ∧ key ≠ 21 ∧ key ≠ 23
      · have HK := Lib.hid (keyS_nil_key mode key 0 hmode hpr h4)
        obtain ⟨k1, k2, k3, k4⟩ := h4
        have g1 : (key != 8) = true := by simpa using k1
        have g2 : (key != 127) = true := by simpa using k2
        have g3 : (key != 21) = true := by simpa using k3
        have g4 : (key != 23) = true := by simpa using k4
        have k5 : ¬ 32 ≤ key := fun h => hpr ⟨h, k2⟩
        clear hpr
        go_wp2
        obtain ⟨y0, y1, -, -⟩ := Blk.two (((hA.drewN nq).set 0 (.slice none 0 0)).set 1 (.int .i64 0))
        refine bodyPost_ret (v := .tuple #[.agg #[.slice none 0 0, .int .i64 0], .int .i64 9]) (by simp [results, Try.results13, go_sem, y0, y1]) rfl ?_
        exact KeyPost.of HK.out (fun h => absurd h hnb) (.inl rfl) rfl (by omega) ((below_drewN hb nq).setCell (p := ⟨w.heap.size + 1, 0, none⟩) (Nat.le_succ _) _ |>.setCell (p := ⟨w.heap.size + 1, 1, none⟩) (Nat.le_succ _) _)
      · have HK := Lib.hid (keyS_nil_fail mode key 0 hmode hpr h4)
        have h5 : key = 8 ∨ key = 127 ∨ key = 21 ∨ key = 23 := by omega
        clear hpr h4
        rcases h5 with rfl | rfl | rfl | rfl
        all_goals
          go_wp2
          obtain ⟨y0, y1, -, -⟩ := Blk.two (((hA.drewN nq).set 0 (.slice none 0 0)).set 1 (.int .i64 0))
          refine bodyPost_ret (v := .tuple #[.agg #[.slice none 0 0, .int .i64 0], .int .i64 5]) (by simp [results, Try.results13, go_sem, y0, y1]) rfl ?_
          exact KeyPost.of HK.out (fun h => absurd h hnb) (.inl rfl) rfl (by omega) ((below_drewN hb nq).setCell (p := ⟨w.heap.size + 1, 0, none⟩) (Nat.le_succ _) _ |>.setCell (p := ⟨w.heap.size + 1, 1, none⟩) (Nat.le_succ _) _)

end Go.Proofs.Ytodgclaaalclkaa
