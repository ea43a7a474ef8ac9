/- Contract of take. -/
import Derived.Test.YtmipnikhgihcpaaFeed2
namespace Go.Proofs.Ytmipnikhgihcpaa
open Go.RowKit
set_option linter.unusedVariables false
set_option linter.unusedSimpArgs false

theorem VOwn.besideO {e e' : TypeId} {base base2 : Nat} {w w' : World} {v v2 : Value} {xs : List Value} {us : List Int} (h : VOwn e base w v xs) (h2 : Own e' base2 w v2 us) (he : e ≠ e') (hg : w.grownBy w' v2.ownBlock) : VOwn e base w' v xs := by
  refine ⟨h.1, ?_⟩
  rcases h.2 with hn | ⟨g, cap, cur, rfl, hb', hgg, rest⟩
  · exact .inl hn
  · refine .inr ⟨g, cap, cur, rfl, hb', ?_, rest⟩
    rw [hg.block g (Array.getElem?_eq_some_iff.1 hgg).1 ?_]
    · exact hgg
    · intro hv
      rcases h2.2 with ⟨rfl, _⟩ | ⟨g2, cap2, cur2, rfl, hb2, hgg2, rest2⟩
      · simp [Value.ownBlock] at hv
      · simp only [Value.ownBlock, Option.some.injEq] at hv
        subst hv
        rw [hgg] at hgg2
        simp at hgg2
        exact he hgg2.2
theorem wh_eq (b : Int) : ∃ z, (whV b == 0) = z := ⟨_, rfl⟩
def MS.mid (m : MS) (b : Int) : MS := if m.ah ≠ [] ∧ fitB m.ah b = false then m.brk else m
theorem Byt.snoc {A : List Int} {b : Int} (h : Byt A) (h0 : 0 ≤ b) (h1 : b ≤ 255) : Byt (A ++ [b]) := by
  intro x hx
  rcases List.mem_append.1 hx with h' | h'
  · exact h x h'
  · obtain rfl : x = b := by simpa using h'
    omega
theorem brk_len (m : MS) : m.brk.ah.length ≤ m.ah.length ∧ m.brk.out.length ≤ m.out.length + 1 := by
  unfold MS.brk; split <;> simp

set_option maxRecDepth 100000 in
set_option maxHeartbeats 8000000 in
theorem feed_take (M : Nat) (av ov : Value) (m : MS) (b : Int) (w : World) (h : Mch w M av ov m) (h0 : 0 ≤ b) (h1 : b ≤ 255) (ha : m.ah.length ≤ 3) (ho : m.out.length ≤ 4194300) :
    Calls Try.prog 151 #[.pointer (some ⟨M, 0, none⟩), .int .u8 b] w (MPost M (m.take b) w) := by
  have HM := Lib.hid h
  have HT := Lib.hid (show m.take b = (m.mid b).put b from rfl)
  obtain ⟨a, n, c, rfl⟩ := h.ah.form
  obtain ⟨g1, g2, g3⟩ := h.ah.noneZ
  rw [len_bv] at g1
  obtain ⟨c0, c1, f0, f1⟩ := h.blk.two
  have HFI := Lib.hid (feed_fits a n c m.ah b w g2 g1 h.byt h0 h1)
  go_enter Try.func151, Try.ntmps151
  go_upto_region 0 with fail
  go_cut [21] (fun v wx => v = .bool (decide (m.ah ≠ [] ∧ fitB m.ah b = false)) ∧ w = wx)
  case first =>
    by_cases hn : n = 0
    · have he : m.ah = [] := List.eq_nil_of_length_eq_zero (by omega)
      have HD := Lib.hid (show decide (m.ah ≠ [] ∧ fitB m.ah b = false) = false by simp [he])
      subst hn
      go_wp2
      go_meet
      rw [HD.out]
      exact ⟨rfl, rfl⟩
    · have i1 : (0 : Int) < (n : Int) := by omega
      have he : m.ah ≠ [] := by intro e; rw [e] at g1; simp at g1; omega
      have HD := Lib.hid (show decide (m.ah ≠ [] ∧ fitB m.ah b = false) = !(fitB m.ah b) by cases fitB m.ah b <;> simp [he])
      generalize fitB m.ah b = fb at *
      clear hn he g1 g2 g3
      go_wp2_with fail
      refine HFI.out.mono ?_
      rintro e w' ⟨rfl, rfl⟩
      go_wp2
      go_meet
      rw [HD.out]
      exact ⟨rfl, rfl⟩
  case rest =>
    obtain ⟨rfl, rfl⟩ := hcut
    go_upto_if 21 with fail
    go_cut [23] (fun v wx => (∃ av ov, Mch wx M av ov (m.mid b)) ∧ Below M w wx)
    case first =>
      by_cases hc : m.ah ≠ [] ∧ fitB m.ah b = false
      · have HD := Lib.hid (show m.mid b = m.brk by unfold MS.mid; rw [if_pos hc])
        rw [show decide (m.ah ≠ [] ∧ fitB m.ah b = false) = true from decide_eq_true hc]
        clear hc
        go_wp2_with fail
        refine (feed_broken M _ ov m w HM.out (by omega)).mono ?_
        rintro e w' ⟨rfl, hm, hb⟩
        go_wp2
        go_meet
        rw [HD.out]
        exact ⟨hm, hb⟩
      · have HD := Lib.hid (show m.mid b = m by unfold MS.mid; rw [if_neg hc])
        rw [show decide (m.ah ≠ [] ∧ fitB m.ah b = false) = false from decide_eq_false hc]
        clear hc
        go_wp2
        go_meet
        rw [HD.out]
        exact ⟨⟨_, _, HM.out⟩, Below.refl _ _⟩
    case rest =>
      obtain ⟨⟨av1, ov1, hm1⟩, hb1⟩ := hcut
      obtain ⟨V, hV⟩ : ∃ V, V = wc := ⟨_, rfl⟩
      subst hV
      have hl1 : (m.mid b).ah.length ≤ 3 ∧ (m.mid b).out.length ≤ 4194301 := by
        have := brk_len m
        unfold MS.mid; split <;> omega
      clear HM HFI c0 c1 f0 f1 g1 g2 g3 h ha ho
      generalize m.mid b = m1 at *
      obtain ⟨la, lo⟩ := hl1
      obtain ⟨a1, n1, k1, rfl⟩ := hm1.ah.form
      obtain ⟨a2, n2, k2, rfl⟩ := hm1.out.form
      obtain ⟨g1, g2, g3⟩ := hm1.ah.noneZ
      rw [len_bv] at g1
      have HM := Lib.hid hm1
      have HW := Lib.hid (feed_whole b h0 h1)
      obtain ⟨c0, c1, f0, f1⟩ := hm1.blk.two
      clear hm1
      go_upto_region 2 with fail
      go_cut [34] (fun v wx => v = .bool (decide (m1.ah = [] ∧ whV b = 0)) ∧ V = wx)
      case first =>
        by_cases hn : n1 = 0
        · have he : m1.ah = [] := List.eq_nil_of_length_eq_zero (by omega)
          have HD := Lib.hid (show decide (m1.ah = [] ∧ whV b = 0) = (whV b == 0) by rw [Bool.eq_iff_iff]; simp [he])
          generalize whV b = wh at *
          clear he
          subst hn
          go_wp2_with fail
          refine (HW.out _).mono ?_
          rintro e w' ⟨rfl, rfl⟩
          go_wp2
          go_meet
          rw [HD.out]
          exact ⟨rfl, rfl⟩
        · have he : m1.ah ≠ [] := by intro e; rw [e] at g1; simp at g1; omega
          have HD := Lib.hid (show decide (m1.ah = [] ∧ whV b = 0) = false by simp [he])
          have z1 : ((n1 : Int) == 0) = false := by rw [beq_eq_false_iff_ne]; omega
          clear he hn g1 g2 g3
          go_wp2
          go_meet
          rw [HD.out]
          exact ⟨rfl, rfl⟩
      case rest =>
        obtain ⟨rfl, rfl⟩ := hcut
        have hz := HM.out.lt
        by_cases hc : m1.ah = [] ∧ whV b = 0
        · have HP := Lib.hid (show m1.put b = ⟨[], m1.out ++ [65533]⟩ by unfold MS.put; rw [if_pos hc])
          have HE := Lib.hid hc.1
          rw [show decide (m1.ah = [] ∧ whV b = 0) = true from decide_eq_true hc]
          have hown := HM.out.out
          have hBA := HM.out.blk.alloc (.cells #[.int .i64 65533] 3)
          have hne := hown.neBlk HM.out.blk (by decide)
          have hahA := HM.out.ah.alloc (.cells #[.int .i64 65533] 3)
          clear hc
          go_wp2_with (at_builtin; refine appN rfl _ _ rfl (M + 1) _ m1.out [65533] _ 1 1 rfl rfl (hown.alloc _) (intsOneU _ _) rfl (by omega) (size_alloc_le hz _) ?_; intro v3 w3 hown3 hgrow3 _; obtain ⟨a3, n3, c3, rfl⟩ := hown3.form; have hB3 := hBA.grown hgrow3 hne; obtain ⟨c0, c1, f0, f1⟩ := hB3.two)
          have hb3 : Below M w w3 := (hb1.alloc (by have := hb1.size; omega) (.cells #[.int .i64 65533] 3)).grown hgrow3 (by rw [World.size_alloc]; omega) (fun k hk => by have := hown.row k hk; omega)
          go_end0
          rw [HT.out, HP.out]
          refine ⟨rfl, ⟨.slice a1 n1 k1, .slice a3 n3 c3, hB3.set 1 (.slice a3 n3 c3), ?_, hown3.setCell (a := ⟨M, 1, none⟩) (Nat.lt_succ_self _) _, fun x hx => by simp at hx⟩, hb3.setCell (p := ⟨M, 1, none⟩) (Nat.le_refl _) _⟩
          have := hahA.besideO (hown.alloc (.cells #[.int .i64 65533] 3)) (by decide) hgrow3
          rw [HE.out] at this
          exact this.setCell (a := ⟨M, 1, none⟩) (Nat.lt_succ_self _) _
        · rw [show decide (m1.ah = [] ∧ whV b = 0) = false from decide_eq_false hc]
          obtain ⟨x0, hx0⟩ : ∃ x, ix (m1.ah ++ [b]) 0 = x := ⟨_, rfl⟩
          have hbyt := HM.out.byt.snoc h0 h1
          have HB2 := Lib.hid hbyt
          have hxr : 0 ≤ x0 ∧ x0 < 256 := by rw [← hx0]; exact hbyt _ (ix_mem (by simp))
          have HP := Lib.hid (show m1.put b = if ((m1.ah.length + 1 : Nat) : Int) = whV x0 then ⟨[], m1.out ++ [(gS (mkB (m1.ah ++ [b]))).c]⟩ else ⟨m1.ah ++ [b], m1.out⟩ by unfold MS.put; rw [if_neg hc, hx0])
          have hah := HM.out.ah
          have hBA := HM.out.blk.alloc (.cells #[.int .u8 b] 5)
          have hne := hah.neBlk HM.out.blk (by decide)
          have hownA := HM.out.out.alloc (.cells #[.int .u8 b] 5)
          have HG1 := Lib.hid g1
          clear hc g1 g2 g3 hbyt
          go_upto_region 5 with (at_builtin; refine bapp1 rfl _ _ rfl (M + 1) _ m1.ah b _ rfl rfl (hah.alloc _) ((Blk.new _ #[.int .u8 b] 5).one.1) (by omega) (size_alloc_le hz _) ?_; intro v3 w3 hah3 hgrow3; obtain ⟨a3, n3, c3, rfl⟩ := hah3.form; have hB3 := hBA.grown hgrow3 hne; obtain ⟨c0, c1, f0, f1⟩ := hB3.two)
          have hb3 : Below M w w3 := (hb1.alloc (by have := hb1.size; omega) (.cells #[.int .u8 b] 5)).grown hgrow3 (by rw [World.size_alloc]; omega) (fun k hk => by have := hah.row k hk; omega)
          have hM5 : Mch (w3.setCell ⟨M, 0, none⟩ (.slice a3 n3 c3)) M (.slice a3 n3 c3) (.slice a2 n2 k2) ⟨m1.ah ++ [b], m1.out⟩ :=
            ⟨hB3.set 0 (.slice a3 n3 c3), hah3.setCell (a := ⟨M, 0, none⟩) (Nat.lt_succ_self _) _, (hownA.beside (hah.alloc (.cells #[.int .u8 b] 5)) (by decide) hgrow3).setCell (a := ⟨M, 0, none⟩) (Nat.lt_succ_self _) _, HB2.out⟩
          have hb5 := hb3.setCell (p := ⟨M, 0, none⟩) (Nat.le_refl _) (.slice a3 n3 c3)
          clear hah3 hB3 hBA hownA hgrow3 hb3 c0 c1 f0 f1 hah hne
          generalize w3.setCell ⟨M, 0, none⟩ (.slice a3 n3 c3) = w5 at *
          obtain ⟨g1, g2, g3⟩ := hM5.ah.noneZ
          rw [len_bv] at g1
          have hn3 : n3 = m1.ah.length + 1 := by rw [← g1]; simp
          obtain ⟨c0, c1, f0, f1⟩ := hM5.blk.two
          obtain ⟨bb, oo, rfl, hcl⟩ := g2.at (k := 0) (by rw [len_bv]; simp)
          have e1 := hcl 0 (by rw [len_bv]; simp)
          rw [show vx (bv (m1.ah ++ [b])) 0 = .int .u8 x0 by rw [vx_at (by rw [len_bv]; simp)]; simp only [bv, List.getElem_map]; rw [← hx0, ix_eq (by simp)], Nat.add_zero] at e1
          have HW0 := Lib.hid (feed_whole x0 hxr.1 (by omega))
          have HM5 := Lib.hid hM5
          have i3 : (0 : Int) < (n3 : Int) := by omega
          have i4 : 0 < n3 := by omega
          have HN3 := Lib.hid hn3
          clear hcl g1 g2 g3 hM5 hn3 hx0
          go_cut [66] (fun v wx => v = .bool ((n3 : Int) == whV x0) ∧ Below w5.heap.size w5 wx)
          case first =>
            generalize whV x0 = wh at *
            go_region_held3 (fun w' => w'.cell? ⟨M, 0, none⟩ = some (.slice (some ⟨bb, oo, none⟩) n3 c3) ∧ w'.cell? ⟨bb, oo, none⟩ = some (.int .u8 x0) ∧ Below w5.heap.size w5 w') (first | exact ⟨c0, e1, (Below.refl _ _).drew⟩ | assumption)
              (first | (go_at_call 199; (refine (HW0.out _).mono ?_; rintro e w9 ⟨rfl, rfl⟩)))
            all_goals
              go_wp2
              go_meet
              exact ⟨rfl, (Below.refl _ _).drew⟩
          case rest =>
            obtain ⟨rfl, hb6⟩ := hcut
            have HM6 := Lib.hid (HM5.out.below hb6)
            have hb7 := below_then hb5 (by have := HM5.out.lt; omega) hb6
            have hz6 := HM6.out.lt
            clear c0 c1 f0 f1 e1 hb6 hb5 hb1
            obtain ⟨c0, c1, f0, f1⟩ := HM6.out.blk.two
            have hcv := HM6.out.ah.conv HM6.out.byt
            have hown := HM6.out.out
            by_cases he : (n3 : Int) = whV x0
            · have HP2 := Lib.hid (show m1.put b = ⟨[], m1.out ++ [(gS (mkB (m1.ah ++ [b]))).c]⟩ by rw [HP.out, if_pos (by rw [← HN3.out]; exact he)])
              have HGT := Lib.hid (utf_get (mkB (m1.ah ++ [b])))
              generalize gS (mkB (m1.ah ++ [b])) = g at *
              generalize mkB (m1.ah ++ [b]) = sb at *
              obtain ⟨gc, gn, ge⟩ := g
              have e9 : ((n3 : Int) == whV x0) = true := by rw [beq_iff_eq]; exact he
              rw [e9]
              clear he
              simp only at hcv hown
              go_wp2_with fail
              refine (HGT.out _).mono ?_
              rintro e w8 ⟨rfl, hb8⟩
              have HM8 := Lib.hid (HM6.out.below hb8)
              have hz8 := HM8.out.lt
              have hb9 := below_then hb7 (by omega) hb8
              have hown8 := HM8.out.out
              simp only at hown8
              have hBA := HM8.out.blk.alloc (.cells #[.int .i64 gc] 3)
              have hne := hown8.neBlk HM8.out.blk (by decide)
              clear c0 c1 f0 f1 hown
              obtain ⟨c0, c1, f0, f1⟩ := HM8.out.blk.two
              go_wp2_with (at_builtin; refine appN rfl _ _ rfl (M + 1) _ m1.out [gc] _ 1 1 rfl rfl (hown8.alloc _) (intsOneU _ _) rfl (by omega) (size_alloc_le hz8 _) ?_; intro v9 w9 hown9 hgrow9 _; obtain ⟨a9, n9, c9, rfl⟩ := hown9.form; have hB9 := hBA.grown hgrow9 hne; obtain ⟨c0, c1, f0, f1⟩ := hB9.two)
              have hbb : Below M w w9 := (hb9.alloc (by omega) (.cells #[.int .i64 gc] 3)).grown hgrow9 (by rw [World.size_alloc]; omega) (fun k hk => by have := hown8.row k hk; omega)
              go_end0
              rw [HT.out, HP2.out]
              refine ⟨rfl, ⟨.slice none 0 0, .slice a9 n9 c9, (hB9.set 1 (.slice a9 n9 c9)).set 0 (.slice none 0 0), VOwn.nil _ _ _, (hown9.setCell (a := ⟨M, 1, none⟩) (Nat.lt_succ_self _) _).setCell (a := ⟨M, 0, none⟩) (Nat.lt_succ_self _) _, fun x hx => by simp at hx⟩, ?_⟩
              exact (hbb.setCell (p := ⟨M, 1, none⟩) (Nat.le_refl _) _).setCell (p := ⟨M, 0, none⟩) (Nat.le_refl _) _
            · have HP2 := Lib.hid (show m1.put b = ⟨m1.ah ++ [b], m1.out⟩ by rw [HP.out, if_neg (by rw [← HN3.out]; exact he)])
              have e9 : ((n3 : Int) == whV x0) = false := by rw [beq_eq_false_iff_ne]; exact he
              rw [e9]
              clear he
              go_wp2
              go_end0
              rw [HT.out, HP2.out]
              exact ⟨rfl, ⟨_, _, HM6.out⟩, hb7⟩

end Go.Proofs.Ytmipnikhgihcpaa
