/- The walk of TermSays. -/
import Derived.Test.YthnjaichbejifaaTerm5
import Derived.Deep.CutBlock
namespace Go.Proofs.Ythnjaichbejifaa
open Go.RowKit
set_option linter.unusedVariables false
set_option linter.unusedSimpArgs false

theorem keepT {w2 w' w'' : World} {B : Nat} {u v : Value} (h : w'.cell? ⟨B, 0, none⟩ = some u ∧ w'.cell? ⟨B, 1, none⟩ = some v ∧ Below w2.heap.size w2 w') (hb : Below w'.heap.size w' w'') :
    w''.cell? ⟨B, 0, none⟩ = some u ∧ w''.cell? ⟨B, 1, none⟩ = some v ∧ Below w2.heap.size w2 w'' :=
  ⟨below_keeps hb _ _ h.1, below_keeps hb _ _ h.2.1, below_then h.2.2 h.2.2.size hb⟩

theorem ref_sameRow_true (a1 a2 : Option Addr) (n1 n2 c1 c2 : Nat) (xs : List Int) (p : Int) (w : World) (h1 : Ints w a1 xs) (h2 : Ints w a2 xs) (e1 : xs.length = n1) (e2 : xs.length = n2) (hx : n1 ≤ 9223372036854775807) :
    Calls Try.prog 31 #[.agg #[.slice a1 n1 c1, .int .i64 p], .agg #[.slice a2 n2 c2, .int .i64 p]] w fun e w' => e = .returned (.bool true) ∧ Below w.heap.size w w' := by
  refine (ref_sameRowT a1 a2 n1 n2 c1 c2 xs xs p p w h1 h2 e1 e2 hx).mono ?_
  rintro e w' ⟨rfl, h⟩
  exact ⟨ret1_bool (by simp), h⟩
theorem keepT4 {w2 w' w'' : World} {B B' : Nat} {u v u2 v2 : Value} (h : w'.cell? ⟨B, 0, none⟩ = some u ∧ w'.cell? ⟨B, 1, none⟩ = some v ∧ w'.cell? ⟨B', 0, none⟩ = some u2 ∧ w'.cell? ⟨B', 1, none⟩ = some v2 ∧ Below w2.heap.size w2 w') (hb : Below w'.heap.size w' w'') :
    w''.cell? ⟨B, 0, none⟩ = some u ∧ w''.cell? ⟨B, 1, none⟩ = some v ∧ w''.cell? ⟨B', 0, none⟩ = some u2 ∧ w''.cell? ⟨B', 1, none⟩ = some v2 ∧ Below w2.heap.size w2 w'' :=
  ⟨below_keeps hb _ _ h.1, below_keeps hb _ _ h.2.1, below_keeps hb _ _ h.2.2.1, below_keeps hb _ _ h.2.2.2.1, below_then h.2.2.2.2 h.2.2.2.2.size hb⟩

set_option maxRecDepth 100000 in
set_option maxHeartbeats 8000000 in
theorem termSays_walk (width : Int) (a a2 : Option Addr) (n c n2 c2 : Nat) (p : Int) (xs l : List Int) (w : World) (ha : Ints w a xs) (hn : xs.length = n) (hl : Ints w a2 l) (hn2 : l.length = n2) (h2 : n ≤ 9223372036854775807) (h22 : n2 ≤ 9223372036854775807) (h0 : a = none → n = 0) (hwr : InR width) :
    Calls Try.prog 14 #[.int .i64 width, .agg #[.slice a n c, .int .i64 p], .slice a2 n2 c2] w fun e w' => e = .returned (.bool true) ∧ Below w.heap.size w w' := by
  have HN := Lib.hid hn; have HN2 := Lib.hid hn2; clear hn hn2
  have H0 := Lib.hid h0; clear h0
  have hP := Blk.new w #[.slice a n c, .int .i64 p] 46
  have hb1 := below1 w (.cells #[.slice a n c, .int .i64 p] 46)
  go_enter Try.func14, Try.ntmps14
  go_upto_region 1 with fail
  obtain ⟨w1, hW1⟩ : ∃ w1, w1 = w.alloc (.cells #[.slice a n c, .int .i64 p] 46) := ⟨_, rfl⟩
  rw [← hW1] at hP hb1 ⊢
  clear hW1
  go_cut [7, 8] (fun q er wx => ∃ B av nv cv, q = .pointer (some ⟨B, 0, none⟩) ∧ Blk wx B #[.slice av nv cv, .int .i64 0] 46 ∧ Below w1.heap.size w1 wx ∧ ((er = .int .i64 1 ∧ nv = 0 ∧ (width < 2 ∨ 120 < width)) ∨ ∃ k : Nat, width = (k : Int) ∧ 2 ≤ k ∧ k ≤ 120 ∧ er = .int .i64 0 ∧ ∃ base, Own 3 base wx (.slice av nv cv) (List.replicate k 32)))
  case first =>
    by_cases hbad : width < 2 ∨ 120 < width
    · go_wp2_with fail
      refine (term_new_bad width w1 hbad).mono ?_
      rintro e w2 ⟨rfl, hb2⟩
      go_wp2
      go_meet
      exact ⟨_, _, _, _, rfl, Blk.new _ _ _, hb2.alloc hb2.size _, .inl ⟨rfl, rfl, hbad⟩⟩
    · obtain ⟨k, rfl⟩ := Int.eq_ofNat_of_zero_le (show 0 ≤ width by omega)
      have hk1 : 2 ≤ k := by omega
      have hk2 : k ≤ 120 := by omega
      go_wp2_with fail
      refine (term_new k w1 hk1 hk2).mono ?_
      rintro e w2 ⟨v, rfl, hown, hb2⟩
      obtain ⟨av, nv, cv, rfl⟩ := hown.form
      go_wp2
      go_meet
      exact ⟨_, _, _, _, rfl, Blk.new _ _ _, hb2.alloc hb2.size _, .inr ⟨k, rfl, hk1, hk2, rfl, _, hown.alloc _⟩⟩
  case rest =>
    obtain ⟨B, av, nv, cv, rfl, hB, hbw, hcase⟩ := hcut
    go_upto_region 2 with fail
    obtain ⟨bw, hbwd⟩ : ∃ bw : Bool, bw = decide (width < 2 ∨ 120 < width) := ⟨_, rfl⟩
    have HBW := Lib.hid hbwd
    clear hbwd
    obtain ⟨W2, hW2⟩ : ∃ W2, W2 = wc := ⟨_, rfl⟩
    go_cut [22] (fun v wx => v = .bool bw ∧ wx = W2)
    case first =>
      by_cases hlo : width < 2
      · have hb0 : bw = true := by rw [HBW.out]; simp [hlo]
        go_wp2
        go_meet
        exact ⟨by rw [hb0], hW2.symm⟩
      · by_cases hhi : 120 < width
        · have hb0 : bw = true := by rw [HBW.out]; simp [hhi]
          go_wp2
          go_meet
          exact ⟨by rw [hb0], hW2.symm⟩
        · have hb0 : bw = false := by rw [HBW.out]; simp; omega
          go_wp2
          go_meet
          exact ⟨by rw [hb0], hW2.symm⟩
    obtain ⟨rfl, rfl⟩ := hcut
    subst hW2
    go_upto_if 22 with fail
    have hPc := hP.below hbw hP.lt
    have hbc := below_then hb1 hb1.size hbw
    obtain ⟨c0, c1, -, -⟩ := hB.two
    go_cut [] (fun wx => Below wc.heap.size wc wx)
    case first =>
      rcases hcase with ⟨rfl, rfl, hbad⟩ | ⟨k, rfl, hk1, hk2, rfl, base, hown⟩
      · obtain rfl : bw = true := by rw [HBW.out]; simpa using hbad
        go_wp2
        go_meet
        exact Below.refl _ _
      · obtain ⟨e1, i1, hcn⟩ := hown.get
        have E1 := Lib.hid e1
        have hnv : nv ≤ 9223372036854775807 := by have := e1; simp at this; omega
        obtain rfl : bw = false := by rw [HBW.out]; simp; omega
        clear hown e1
        go_wp2
        go_region_held3 (fun w' => w'.cell? ⟨B, 0, none⟩ = some (.slice av nv cv) ∧ w'.cell? ⟨B, 1, none⟩ = some (.int .i64 0) ∧ Below wc.heap.size wc w') (first | exact ⟨c0, c1, (Below.refl _ _).drew⟩ | assumption | exact keepT ‹_› ‹_›)
          (first | (go_at_call 76; refine (ref_blank k _ (by omega)).mono ?_; rintro e w8 ⟨v8, rfl, o8, hbel8⟩; obtain ⟨a8, n8, c8, rfl⟩ := o8.form) | (go_at_call 31; refine (ref_sameRow_true av a8 nv n8 cv c8 _ 0 _ (i1.below (And.right (And.right ‹_›))) o8.get.2.1 E1.out o8.get.1 hnv).mono ?_; rintro e w9 ⟨rfl, hbel9⟩))
        all_goals
          go_wp2
          go_meet
          exact And.right (And.right ‹_›)
    case rest =>
      have hPd := hPc.below hcut hPc.lt
      have hbd := below_then hbc hbc.size hcut
      clear hcase c0 c1 hB hbw hPc hbc hcut
      obtain ⟨c0, c1, -, -⟩ := hPd.two
      have ha1 := ha.below hbd
      have hl1 := hl.below hbd
      obtain ⟨er, her⟩ : ∃ er, rowErr xs p = er := ⟨_, rfl⟩
      have HE := Lib.hid her
      clear her
      go_wp2_with fail
      refine (ref_rowErr a n c xs p _ ha1 HN.out h2).mono ?_
      rintro e w2 ⟨rfl, hb2⟩
      rw [HE.out]
      have hP2 := hPd.below hb2 hPd.lt
      have hbe := below_then hbd hbd.size hb2
      have ha2' := ha.below hbe
      have hl2 := hl.below hbe
      clear c0 c1 hPd hbd hb2 ha1 hl1
      obtain ⟨c0, c1, -, -⟩ := hP2.two
      by_cases he : er = 0
      · subst he
        have hok : ¬ (n < 2 ∨ 120 < n ∨ p < 0 ∨ (n : Int) < p) := fun hh => by
          have := HE.out; rw [rowErr_bad (by rw [HN.out]; exact hh)] at this; cases this
        obtain ⟨pn, rfl⟩ := Int.eq_ofNat_of_zero_le (show 0 ≤ p by omega)
        have hn1 : 2 ≤ n := by omega
        have hn2 : n ≤ 120 := by omega
        have hpn : pn ≤ n := by omega
        clear hok
        have hS := (termRun_len l (xs, pn) n2 (by have := HN.out; show pn ≤ xs.length; omega)).1
        rw [show (xs, pn).1.length = n from HN.out] at hS
        have HS := Lib.hid hS
        clear hS
        go_wp2_with fail
        refine (term_show a a2 n c n2 c2 pn xs l _ ha2' HN.out hl2 HN2.out h22 HE.out hn1 hn2 hpn H0.out).mono ?_
        rintro e w3 ⟨g3, c3, rfl, hI3, hb3⟩
        have hP3 := hP2.below hb3 hP2.lt
        have hbf := below_then hbe hbe.size hb3
        have ha3 := ha2'.below hb3
        have hl3 := hl2.below hb3
        clear c0 c1 hP2 hbe hb3 ha2' hl2
        go_upto_region 9 with fail
        have hQ := Blk.new w3 #[.slice (some ⟨g3, 0, none⟩) n c3, .int .i64 ((termRun l (xs, pn) n2).2 : Int)] 46
        have hb4 := below1 w3 (.cells #[.slice (some ⟨g3, 0, none⟩) n c3, .int .i64 ((termRun l (xs, pn) n2).2 : Int)] 46)
        generalize w3.alloc (.cells #[.slice (some ⟨g3, 0, none⟩) n c3, .int .i64 ((termRun l (xs, pn) n2).2 : Int)] 46) = w4 at hQ hb4 ⊢
        have hP4 := hP3.below hb4 hP3.lt
        have hbg := below_then hbf hbf.size hb4
        have ha4 := ha3.below hb4
        have hl4 := hl3.below hb4
        have hI4 := hI3.below hb4
        clear hP3 hbf hb4 ha3 hl3 hI3
        generalize w3.heap.size = B3 at hQ ⊢
        obtain ⟨c0, c1, -, -⟩ := hP4.two
        go_wp2_with fail
        refine (term_check a n c xs (pn : Int) _ ha4 HN.out h2).mono ?_
        rintro e w5 ⟨rfl, hb5⟩
        rw [HE.out]
        have hP5 := hP4.below hb5 hP4.lt
        have hQ5 := hQ.below hb5 hQ.lt
        have hbh := below_then hbg hbg.size hb5
        have ha5 := ha4.below hb5
        have hl5 := hl4.below hb5
        have hI5 := hI4.below hb5
        clear c0 c1 hP4 hQ hbg hb5 ha4 hl4 hI4
        obtain ⟨c0, c1, -, -⟩ := hP5.two
        obtain ⟨d0, d1, -, -⟩ := hQ5.two
        go_wp2
        first
        | go_region_law (first | (go_simp; go_at_call 80; refine (ref_shown a a2 n c n2 c2 pn xs l w5.drew ha5.drew HN.out hl5.drew HN2.out h22 hn1 hn2 hpn H0.out).mono ?_; rintro e w8 ⟨g8, c8, rfl, hI8, hbel8⟩; have kd0 : w8.cell? ⟨B3, 0, none⟩ = some (.slice (some ⟨g3, 0, none⟩) n c3) := below_keeps hbel8 _ _ d0; have kd1 : w8.cell? ⟨B3, 1, none⟩ = some (.int .i64 ((termRun l (xs, pn) n2).2 : Int)) := below_keeps hbel8 _ _ d1; have hI9 : Ints w8 (some ⟨g3, 0, none⟩) (termRun l (xs, pn) n2).1 := hI5.keep (fun p' u hp => below_keeps hbel8 _ _ hp)) | (go_simp; go_at_call 31; refine (ref_sameRow_true _ _ n n c3 c8 _ _ _ hI9 hI8 HS.out HS.out h2).mono ?_; rintro e w9 ⟨rfl, hbel9⟩))
        | fail "region"
        all_goals
          have hb8 : Below w5.heap.size w5 w8 := ⟨hbel8.os, hbel8.tape, hbel8.output, hbel8.size, hbel8.block⟩
          go_wp2
          go_ret
          exact ⟨ret1_bool (by simp), below_then hbh hbh.size (below_then hb8 hb8.size hbel9)⟩
      · have her : er = 1 ∨ er = 4 := by
          rw [← HE.out] at he ⊢
          unfold rowErr at he ⊢
          by_cases h : xs.length < 2 ∨ 120 < xs.length ∨ p < 0 ∨ (xs.length : Int) < p
          · rw [if_pos h]; exact .inl rfl
          · rw [if_neg h] at he ⊢
            by_cases h' : xs.any badC = true
            · rw [if_pos h']; exact .inr rfl
            · rw [if_neg h'] at he; exact absurd rfl he
        clear he
        have he : rowErr xs p ≠ 0 := by rw [HE.out]; omega
        rcases her with rfl | rfl
        · go_wp2_with fail
          refine (term_show_bad a a2 n c n2 c2 xs p _ ha2' HN.out h2 he).mono ?_
          rintro e w3 ⟨rfl, hb3⟩
          rw [HE.out]
          have hP3 := hP2.below hb3 hP2.lt
          have hbf := below_then hbe hbe.size hb3
          have ha3 := ha2'.below hb3
          clear c0 c1 hP2 hbe hb3 ha2' hl2
          go_upto_region 9 with fail
          have hQ := Blk.new w3 #[.slice none 0 0, .int .i64 0] 46
          have hb4 := below1 w3 (.cells #[.slice none 0 0, .int .i64 0] 46)
          generalize w3.alloc (.cells #[.slice none 0 0, .int .i64 0] 46) = w4 at hQ hb4 ⊢
          have hP4 := hP3.below hb4 hP3.lt
          have hbg := below_then hbf hbf.size hb4
          have ha4 := ha3.below hb4
          clear hP3 hbf hb4 ha3
          generalize w3.heap.size = B3 at hQ ⊢
          obtain ⟨c0, c1, -, -⟩ := hP4.two
          go_wp2_with fail
          refine (term_check a n c xs p _ ha4 HN.out h2).mono ?_
          rintro e w5 ⟨rfl, hb5⟩
          rw [HE.out]
          have hQ5 := hQ.below hb5 hQ.lt
          have hbh := below_then hbg hbg.size hb5
          clear c0 c1 hP4 hQ hbg hb5 ha4
          obtain ⟨d0, d1, -, -⟩ := hQ5.two
          go_wp2
          have hund : undef = Value.tuple #[] := rfl
          first
          | go_region_law (first | (go_simp; go_at_call 31; refine (ref_sameRow_true none none 0 0 0 0 [] 0 _ (.inl rfl) (.inl rfl) rfl rfl (by omega)).mono ?_; rintro e w9 ⟨rfl, hbel9⟩))
          | fail "region"
          all_goals
            have hb8 : Below w5.heap.size w5 w9 := ⟨hbel9.os, hbel9.tape, hbel9.output, hbel9.size, hbel9.block⟩
            go_wp2
            go_ret
            exact ⟨ret1_bool (by simp), below_then hbh hbh.size hb8⟩
        · go_wp2_with fail
          refine (term_show_bad a a2 n c n2 c2 xs p _ ha2' HN.out h2 he).mono ?_
          rintro e w3 ⟨rfl, hb3⟩
          rw [HE.out]
          have hP3 := hP2.below hb3 hP2.lt
          have hbf := below_then hbe hbe.size hb3
          have ha3 := ha2'.below hb3
          clear c0 c1 hP2 hbe hb3 ha2' hl2
          go_upto_region 9 with fail
          have hQ := Blk.new w3 #[.slice none 0 0, .int .i64 0] 46
          have hb4 := below1 w3 (.cells #[.slice none 0 0, .int .i64 0] 46)
          generalize w3.alloc (.cells #[.slice none 0 0, .int .i64 0] 46) = w4 at hQ hb4 ⊢
          have hP4 := hP3.below hb4 hP3.lt
          have hbg := below_then hbf hbf.size hb4
          have ha4 := ha3.below hb4
          clear hP3 hbf hb4 ha3
          generalize w3.heap.size = B3 at hQ ⊢
          obtain ⟨c0, c1, -, -⟩ := hP4.two
          go_wp2_with fail
          refine (term_check a n c xs p _ ha4 HN.out h2).mono ?_
          rintro e w5 ⟨rfl, hb5⟩
          rw [HE.out]
          have hQ5 := hQ.below hb5 hQ.lt
          have hbh := below_then hbg hbg.size hb5
          clear c0 c1 hP4 hQ hbg hb5 ha4
          obtain ⟨d0, d1, -, -⟩ := hQ5.two
          go_wp2
          have hund : undef = Value.tuple #[] := rfl
          first
          | go_region_law (first | (go_simp; go_at_call 31; refine (ref_sameRow_true none none 0 0 0 0 [] 0 _ (.inl rfl) (.inl rfl) rfl rfl (by omega)).mono ?_; rintro e w9 ⟨rfl, hbel9⟩))
          | fail "region"
          all_goals
            have hb8 : Below w5.heap.size w5 w9 := ⟨hbel9.os, hbel9.tape, hbel9.output, hbel9.size, hbel9.block⟩
            go_wp2
            go_ret
            exact ⟨ret1_bool (by simp), below_then hbh hbh.size hb8⟩

end Go.Proofs.Ythnjaichbejifaa
