/- Contract of fairref.Key at the nil line. -/
import Derived.Test.YtodgclaaalclkaaEditN
namespace Go.Proofs.Ytodgclaaalclkaa
open Go.RowKit
set_option linter.unusedVariables false
set_option linter.unusedSimpArgs false

set_option maxRecDepth 100000 in
set_option maxHeartbeats 1000000 in
theorem ref_key_nil (mode key : Int) (w : World) (hmode : mode = 1 ∨ mode = 2) :
    Calls Try.prog 14 #[.agg #[.slice none 0 0, .int .i64 0], .int .i64 mode, .int .i64 key] w (KeyPost (RefBack [] false 0) [] 0 mode key w) := by
  have hb := below2 w (.cells #[.slice none 0 0, .int .i64 0] 24) (.cells #[.slice none 0 0, .int .i64 0] 24)
  have hA := Blk.new (w.alloc (.cells #[.slice none 0 0, .int .i64 0] 24)) #[.slice none 0 0, .int .i64 0] 24
  have hP := (Blk.new w #[.slice none 0 0, .int .i64 0] 24).alloc (.cells #[.slice none 0 0, .int .i64 0] 24)
  rw [World.size_alloc] at hA
  have hnb : ¬ UsesB [] 0 mode key := fun h => by have := h.2.1; omega
  go_enter Try.func14, Try.ntmps14
  go_upto_region 3 with fail
  obtain ⟨w2, hW2⟩ : ∃ w2, w2 = (w.alloc (.cells #[.slice none 0 0, .int .i64 0] 24)).alloc (.cells #[.slice none 0 0, .int .i64 0] 24) := ⟨_, rfl⟩
  rw [← hW2] at hb hA hP ⊢
  clear hW2
  obtain ⟨c0, c1, -, -⟩ := hP.two
  obtain ⟨d0, d1, f0, f1⟩ := hA.two
  have hz := hA.lt
  go_cut [34] (fun v wx => v = .bool false ∧ wx = w2)
  case first =>
    rcases hmode with rfl | rfl
    all_goals
      go_wp2
      go_meet
      exact ⟨rfl, rfl⟩
  case rest =>
    obtain ⟨rfl, rfl⟩ := hcut
    go_upto_region 5 with fail
    go_quiet (fail)
    by_cases hpr : 32 ≤ key ∧ key ≠ 127
    · have HK := Lib.hid (keyS_nil_ins mode key 0 hmode hpr)
      obtain ⟨k1, k2⟩ := hpr
      have g1 : (key != 127) = true := by simpa using k2
      have e0 : (wc.drewN nq).cell? ⟨w.heap.size, 1, none⟩ = some (.int .i64 0) := c1
      have e00 : (wc.drewN nq).cell? ⟨w.heap.size, 0, none⟩ = some (.slice none 0 0) := c0
      have hres := hA.drewN nq
      have hB3 : Below wc.heap.size wc (wc.drewN nq) := below_drewN (Below.refl _ _) nq
      have hz3 : w.heap.size + 1 < (wc.drewN nq).heap.size := hz
      have hz4 : w.heap.size < (wc.drewN nq).heap.size := hP.lt
      obtain ⟨w3, hw3⟩ : ∃ w3, wc.drewN nq = w3 := ⟨_, rfl⟩
      rw [hw3] at e0 e00 hres hB3 hz3 hz4
      have hbx := below_then hb hb.size hB3
      have hI3 := ints1N w3 key
      have hcat := (catIn3 (w3.alloc (.cells #[.int .i64 key] 3)) 22 (n0 := 0) (n1 := 1) (n2 := 0) 0 1 0 (Ints.nil _ none) hI3 (Ints.nil _ none) rfl rfl rfl (by simp) (by simp) (by simp) (fun _ => rfl) (fun h => by cases h) (fun _ => rfl)).drew
      have hck := below2 w3 (.cells #[.int .i64 key] 3) (.cells #[.slice none 0 0, .slice (some ⟨w3.heap.size, 0, none⟩) 1 1, .slice none 0 0] 22)
      rw [World.size_alloc] at hcat
      have iw : IntKind.i64.wrap (1 : Int) = 1 := by rw [IntKind.wrap_i64]; omega
      rw [hw3]
      clear hw3
      go_upto_region 11 with fail
      all_goals
        go_region_law (first | (go_simp; go_at_call 65; refine (slices_concat _ 3 _ _ _ _ _ hcat (by omega)).mono ?_; rintro e w8 ⟨v8, rfl, o8, hb8⟩; obtain ⟨a8, n8, c8, rfl⟩ := o8.form; have hres8 : Blk w8 (w.heap.size + 1) #[.slice none 0 0, .int .i64 0] 24 := Blk.below (((hres.alloc _).alloc _).drew) hb8 (by show _ < ((w3.alloc _).alloc _).heap.size; rw [World.size_alloc, World.size_alloc]; omega); obtain ⟨kd0, kd1, kf0, kf1⟩ := hres8.two; have ke0 : w8.cell? ⟨w.heap.size, 1, none⟩ = some (.int .i64 0) := below_keeps hb8 _ _ (below_keeps hck _ _ e0))
          )
        all_goals
          have hb9 : Below w3.heap.size w3 w8 := hck.drew.trans (hb8.mono (by show _ ≤ ((w3.alloc _).alloc _).heap.size; rw [World.size_alloc, World.size_alloc]; omega))
          rw [joinX3] at o8
          have hG := ((hres8.set 0 (.slice a8 n8 c8)).set 1 (.int .i64 1))
          obtain ⟨y0, y1, -, -⟩ := Blk.two hG
          have o8 := o8.mono (base' := w3.heap.size + 1) (by show w3.heap.size + 1 ≤ ((w3.alloc _).alloc _).heap.size; rw [World.size_alloc, World.size_alloc]; omega)
          have o9 := (o8.setCell (a := ⟨w.heap.size + 1, 0, none⟩) (by show w.heap.size + 1 < _; omega) (.slice a8 n8 c8)).setCell (a := ⟨w.heap.size + 1, 1, none⟩) (by show w.heap.size + 1 < _; omega) (.int .i64 1)
          go_simp
          go_wp2
          refine bodyPost_ret (v := .tuple #[.agg #[.slice a8 n8 c8, .int .i64 1], .int .i64 0]) (by simp [results, Try.results14, go_sem, y0, y1]) rfl ?_
          refine KeyPost.of HK.out (fun h => absurd h hnb) (by simpa using o9.get.2.1) (by simpa using o9.get.1) (by have := o9.get.1; simp at this; omega) ?_
          exact (((below_then hbx hbx.size hb9)).setCell (p := ⟨w.heap.size + 1, 0, none⟩) (Nat.le_succ _) _).setCell (p := ⟨w.heap.size + 1, 1, none⟩) (Nat.le_succ _) _
    · by_cases h4 : key ≠ 8 ∧ key ≠ 127 ∧ key ≠ 21 ∧ key ≠ 23
      · have HK := Lib.hid (keyS_nil_key mode key 0 hmode hpr h4)
        obtain ⟨k1, k2, k3, k4⟩ := h4
        have g1 : (key != 8) = true := by simpa using k1
        have g2 : (key != 127) = true := by simpa using k2
        have g3 : (key != 21) = true := by simpa using k3
        have g4 : (key != 23) = true := by simpa using k4
        have k5 : ¬ 32 ≤ key := fun h => hpr ⟨h, k2⟩
        clear hpr
        go_wp2
        obtain ⟨y0, y1, -, -⟩ := Blk.two (((hA.drewN nq).set 0 (.slice none 0 0)).set 1 (.int .i64 0))
        refine bodyPost_ret (v := .tuple #[.agg #[.slice none 0 0, .int .i64 0], .int .i64 9]) (by simp [results, Try.results14, go_sem, y0, y1]) rfl ?_
        exact KeyPost.of HK.out (fun h => absurd h hnb) (.inl rfl) rfl (by omega) ((below_drewN hb nq).setCell (p := ⟨w.heap.size + 1, 0, none⟩) (Nat.le_succ _) _ |>.setCell (p := ⟨w.heap.size + 1, 1, none⟩) (Nat.le_succ _) _)
      · have HK := Lib.hid (keyS_nil_fail mode key 0 hmode hpr h4)
        have h5 : key = 8 ∨ key = 127 ∨ key = 21 ∨ key = 23 := by omega
        clear hpr h4
        rcases h5 with rfl | rfl | rfl | rfl
        all_goals
          go_wp2
          obtain ⟨y0, y1, -, -⟩ := Blk.two (((hA.drewN nq).set 0 (.slice none 0 0)).set 1 (.int .i64 0))
          refine bodyPost_ret (v := .tuple #[.agg #[.slice none 0 0, .int .i64 0], .int .i64 5]) (by simp [results, Try.results14, go_sem, y0, y1]) rfl ?_
          exact KeyPost.of HK.out (fun h => absurd h hnb) (.inl rfl) rfl (by omega) ((below_drewN hb nq).setCell (p := ⟨w.heap.size + 1, 0, none⟩) (Nat.le_succ _) _ |>.setCell (p := ⟨w.heap.size + 1, 1, none⟩) (Nat.le_succ _) _)

end Go.Proofs.Ytodgclaaalclkaa
