/- Contracts of paint.way, paint.diff. -/
import Derived.Test.YtmipnikhgihcpaaPntP
import Derived.Test.YtmipnikhgihcpaaSl
import Derived.Test.YtmipnikhgihcpaaRep2
import Derived.Test.YtmipnikhgihcpaaCut
import Derived.BigQuiet
import Derived.Deep.DeepCutAuto
namespace Go.Proofs.Ytmipnikhgihcpaa
open Go.RowKit
set_option linter.unusedVariables false
set_option linter.unusedSimpArgs false

theorem repS8 (k : Nat) : repS [8] k = List.replicate k 8 := by
  induction k with
  | zero => rfl
  | succ k ih => rw [List.replicate_succ, ← ih]; rfl
theorem intsOne (w : World) (x : Int) : Ints (w.alloc (.cells #[.int .i64 x] 3)) (some ⟨w.heap.size, 0, none⟩) [x] :=
  .inr ⟨_, _, rfl, fun i hi => by
    obtain rfl : i = 0 := by simpa using hi
    exact cell_new1 w (.int .i64 x) 3⟩
theorem own_lit1 (w : World) (base : Nat) (x : Int) (hb : base ≤ w.heap.size) : Own 3 base (w.alloc (.cells #[.int .i64 x] 3)) (.slice (some ⟨w.heap.size, 0, none⟩) 1 1) [x] :=
  own_of_blk (xs := [x]) (Blk.new w #[.int .i64 x] 3) hb (by simp)

set_option maxRecDepth 100000 in
theorem paint_way (a : Option Addr) (n c f t : Nat) (B : List Int) (w : World) (hs : Sl w (.slice a n c) B) (hf : f ≤ n) (ht : t ≤ n) (hn : n ≤ 120) :
    Calls Try.prog 155 #[.slice a n c, .int .i64 (f : Int), .int .i64 (t : Int)] w (ClonePost (wayS B f t) w) := by
  obtain ⟨h1, h2, h3, h4, h5⟩ := hs.get
  have HN := Lib.hid h1
  clear h1 hs
  rcases Nat.lt_or_ge t f with hlt | hge
  · have i1 : ¬ (f : Int) ≤ (t : Int) := by omega
    by_cases hq : f - t ≤ 1 + t
    · have hw : wayS B f t = List.replicate (f - t) 8 := by unfold wayS; rw [if_neg (by omega), if_pos hq]
      rw [hw]
      have i2 : (f : Int) - (t : Int) ≤ 1 + (t : Int) := by omega
      have hI := intsOne w 8
      obtain ⟨k, hk⟩ : ∃ k, f - t = k := ⟨_, rfl⟩
      have i3 : (f : Int) - (t : Int) = (k : Int) := by omega
      rw [hk]
      have hk4 : k ≤ 4096 := by omega
      have hc := slices_repeat _ 1 1 k [8] _ hI rfl hk4 (by decide)
      clear h5 h3
      go_enter Try.func155, Try.ntmps155
      go_wp2_with fail
      refine hc.mono ?_
      rintro e w2 ⟨v, rfl, hown, hb2⟩
      have hb := below_then (below1 w (.cells #[.int .i64 8] 3)) (by simp) hb2
      go_wp2
      go_ret
      rw [repS8] at hown
      exact ⟨_, rfl, hown.mono (by simp), hb⟩
    · have hw : wayS B f t = 13 :: B.take t := by unfold wayS; rw [if_neg (by omega), if_neg hq]
      rw [hw]
      have i2 : ¬ (f : Int) - (t : Int) ≤ 1 + (t : Int) := by omega
      have hcr := cut_run_to a n c t (by omega)
      have hI := (h4.below (below1 w (.cells #[.int .i64 13] 3))).take t
      have hl : (B.take t).length = t := by rw [List.length_take, HN.out]; omega
      have HL := Lib.hid hl
      have ho := own_lit1 w w.heap.size 13 (Nat.le_refl _)
      clear hl h3
      go_enter Try.func155, Try.ntmps155
      go_wp2_with (at_builtin; refine appV rfl _ _ rfl w.heap.size _ [13] (B.take t) _ t c rfl rfl ho hI HL.out (fun e => by have := h5 e; omega) (by simp; omega) (by simp) ?_; intro v1 w1 hown1 hgrow1)
      go_ret
      exact ⟨v1, rfl, hown1, (below1 w _).grown hgrow1 (by simp) ho.row⟩
  · have hw : wayS B f t = (B.take t).drop f := by unfold wayS; rw [if_pos hge]
    rw [hw]
    have i1 : (f : Int) ≤ (t : Int) := by omega
    have hcr := cut_run a n c f t hge (by omega)
    have hI := h4.cutTo (c := c) f t (by rw [HN.out]; omega) hge (by rw [HN.out]; omega)
    have hl : ((B.take t).drop f).length = t - f := by rw [List.length_drop, List.length_take, HN.out]; omega
    have HL := Lib.hid hl
    clear hl h3
    go_enter Try.func155, Try.ntmps155
    go_wp2_with fail
    refine (slices_clone _ _ _ _ _ hI HL.out (by omega) (fun e => by have := h5 (cutA_none e); omega)).mono ?_
    rintro e w2 ⟨v, rfl, hown, hb2⟩
    go_wp2
    go_ret
    exact ⟨_, rfl, hown, hb2⟩

set_option maxRecDepth 100000 in
set_option maxHeartbeats 1000000 in
theorem paint_diff (a b : Option Addr) (n ca cb f t x y : Nat) (A B : List Int) (w : World) (ha : Sl w (.slice a n ca) A) (hb : Sl w (.slice b n cb) B) (hf : f ≤ t) (ht : t ≤ n) (hn : n ≤ 120) (hr : RngD A B f t x y) :
    Calls Try.prog 107 #[.slice a n ca, .slice b n cb, .int .i64 (f : Int), .int .i64 (t : Int)] w fun e w' => e = .returned (.tuple #[.int .i64 (x : Int), .int .i64 (y : Int), .bool (decide (x < y))]) ∧ ∃ n, w' = w.drewN n := by
  obtain ⟨a1, a2, a3, a4, a5⟩ := ha.get
  obtain ⟨b1, b2, b3, b4, b5⟩ := hb.get
  have HA := Lib.hid a1; have HB := Lib.hid b1
  clear a1 b1 ha hb a3 b3
  have HR := Lib.hid hr
  obtain ⟨r1, r2, r3, -, -, -, r7⟩ := hr
  clear r7
  go_enter Try.func107, Try.ntmps107
  go_wp2
  go_loopw [2] (fun i wr => ∃ k : Nat, i = .int .i64 (k : Int) ∧ f ≤ k ∧ k ≤ x ∧ ∃ n, wr = w.drewN n) (fun i _ => n - (intOf i).toNat)
  case atStart => exact ⟨f, rfl, Nat.le_refl _, r1, 0, rfl⟩
  case round =>
    obtain ⟨k, rfl, hk1, hk2, m, rfl⟩ := hrel
    by_cases hend : k = t ∨ ¬ (ix A k = ix B k)
    · have hkx : k = x := by
        rcases Nat.lt_or_ge k x with h | h
        · rcases hend with rfl | h2
          · omega
          · exact absurd (HR.out.lo k hk1 h) h2
        · omega
      subst hkx
      go_upto_region 1 with fail
      go_cut [24] (fun v wx => v = .bool false ∧ ∃ n, wx = w.drewN n)
      case first =>
        rcases Nat.lt_or_ge k t with hlt | hge
        · have hne : (ix A k == ix B k) = false := by
            rcases hend with rfl | h2
            · omega
            · simpa using h2
          obtain ⟨b', o', rfl, hc1⟩ := a4.at (k := k) (by rw [HA.out]; omega)
          obtain ⟨b'', o'', rfl, hc2⟩ := b4.at (k := k) (by rw [HB.out]; omega)
          have e1 := hc1 k (by rw [HA.out]; omega)
          have e2 := hc2 k (by rw [HB.out]; omega)
          have i1 : (k : Int) < (t : Int) := by omega
          have i2 : (k : Int) < (n : Int) := by omega
          clear hc1 hc2 hend
          go_quiet (fail)
          all_goals
            go_wp2
            go_meet
            exact ⟨rfl, _, by first | rfl | exact drewN_drewN _ _ _⟩
        · have i1 : ¬ (k : Int) < (t : Int) := by omega
          clear hend
          go_quiet (fail)
          all_goals
            go_wp2
            go_meet
            exact ⟨rfl, _, by first | rfl | exact drewN_drewN _ _ _⟩
      case rest =>
        obtain ⟨rfl, m2, rfl⟩ := hcut
        clear hend r1
        go_wp2
        go_loopw [3] (fun i wr => ∃ j : Nat, i = .int .i64 (j : Int) ∧ j ≤ t ∧ y ≤ j ∧ ∃ n, wr = w.drewN n) (fun i _ => (intOf i).toNat)
        case atStart => exact ⟨t, rfl, Nat.le_refl _, r3, _, rfl⟩
        case round =>
          obtain ⟨j, rfl, hj1, hj2, m3, rfl⟩ := hrel
          by_cases hend : j = k ∨ ¬ (ix A (j - 1) = ix B (j - 1))
          · have hjy : j = y := by
              rcases Nat.lt_or_ge y j with h | h
              · rcases hend with rfl | h2
                · omega
                · exact absurd (HR.out.hi (j - 1) (by omega) (by omega)) h2
              · omega
            subst hjy
            go_upto_region 3 with fail
            go_cut [42] (fun v wx => v = .bool false ∧ ∃ n, wx = w.drewN n)
            case first =>
              rcases Nat.lt_or_ge k j with hlt | hge
              · have hne : (ix A (j - 1) == ix B (j - 1)) = false := by
                  rcases hend with rfl | h2
                  · omega
                  · simpa using h2
                obtain ⟨b', o', rfl, hc1⟩ := a4.at (k := j - 1) (by rw [HA.out]; omega)
                obtain ⟨b'', o'', rfl, hc2⟩ := b4.at (k := j - 1) (by rw [HB.out]; omega)
                have e1 := hc1 (j - 1) (by rw [HA.out]; omega)
                have e2 := hc2 (j - 1) (by rw [HB.out]; omega)
                have i1 : (k : Int) < (j : Int) := by omega
                have i2 : (j : Int) - 1 = ((j - 1 : Nat) : Int) := by omega
                have i3 : ((j - 1 : Nat) : Int) < (n : Int) := by omega
                generalize j - 1 = p at *
                clear hc1 hc2 hend
                go_quiet (fail)
                all_goals
                  go_wp2
                  go_meet
                  exact ⟨rfl, _, by first | rfl | exact drewN_drewN _ _ _⟩
              · have i1 : ¬ (k : Int) < (j : Int) := by omega
                clear hend
                go_quiet (fail)
                all_goals
                  go_wp2
                  go_meet
                  exact ⟨rfl, _, by first | rfl | exact drewN_drewN _ _ _⟩
            case rest =>
              obtain ⟨rfl, m4, rfl⟩ := hcut
              rcases Nat.lt_or_ge k j with hlt | hge
              · have i1 : (k : Int) < (j : Int) := by omega
                clear hend
                go_wp2
                go_ret3
                exact ⟨by simp [hlt], _, rfl⟩
              · have i1 : ¬ (k : Int) < (j : Int) := by omega
                clear hend
                go_wp2
                go_ret3
                exact ⟨by simp; omega, _, rfl⟩
          · have h2 : ix A (j - 1) = ix B (j - 1) := by
              by_cases h : ix A (j - 1) = ix B (j - 1)
              · exact h
              · exact absurd (.inr h) hend
            have h3 : j ≠ k := fun e => hend (.inl e)
            have hyj : y < j := by
              rcases Nat.lt_or_ge y j with h | h
              · exact h
              · obtain rfl : j = y := by omega
                exact absurd h2 (HR.out.ends (by omega)).2
            have hne : (ix A (j - 1) == ix B (j - 1)) = true := by simpa using h2
            obtain ⟨b', o', rfl, hc1⟩ := a4.at (k := j - 1) (by rw [HA.out]; omega)
            obtain ⟨b'', o'', rfl, hc2⟩ := b4.at (k := j - 1) (by rw [HB.out]; omega)
            have e1 := hc1 (j - 1) (by rw [HA.out]; omega)
            have e2 := hc2 (j - 1) (by rw [HB.out]; omega)
            have i1 : (k : Int) < (j : Int) := by omega
            have i2 : (j : Int) - 1 = ((j - 1 : Nat) : Int) := by omega
            have i3 : ((j - 1 : Nat) : Int) < (n : Int) := by omega
            clear hc1 hc2 hend h2
            go_upto_region 3 with fail
            go_quiet (fail)
            all_goals
              go_wp2
              go_roundw
              case rel => exact ⟨j - 1, rfl, by omega, by omega, _, by first | rfl | exact drewN_drewN _ _ _⟩
              case measure => simp [intOf]; omega
    · have h2 : ix A k = ix B k := by
        by_cases h : ix A k = ix B k
        · exact h
        · exact absurd (.inr h) hend
      have h3 : k ≠ t := fun e => hend (.inl e)
      have hkx : k < x := by
        rcases Nat.lt_or_ge k x with h | h
        · exact h
        · obtain rfl : k = x := by omega
          rcases Nat.lt_or_ge k y with h4 | h4
          · exact absurd h2 (HR.out.ends h4).1
          · exact absurd (HR.out.none (by omega)) h3
      have hne : (ix A k == ix B k) = true := by simpa using h2
      obtain ⟨b', o', rfl, hc1⟩ := a4.at (k := k) (by rw [HA.out]; omega)
      obtain ⟨b'', o'', rfl, hc2⟩ := b4.at (k := k) (by rw [HB.out]; omega)
      have e1 := hc1 k (by rw [HA.out]; omega)
      have e2 := hc2 k (by rw [HB.out]; omega)
      have i1 : (k : Int) < (t : Int) := by omega
      have i2 : (k : Int) < (n : Int) := by omega
      clear hc1 hc2 hend h2 h3
      go_upto_region 1 with fail
      go_quiet (fail)
      all_goals
        go_wp2
        go_roundw
        case rel => exact ⟨k + 1, by go_num, by omega, by omega, _, by first | rfl | exact drewN_drewN _ _ _⟩
        case measure => simp [intOf]; omega

end Go.Proofs.Ytmipnikhgihcpaa
