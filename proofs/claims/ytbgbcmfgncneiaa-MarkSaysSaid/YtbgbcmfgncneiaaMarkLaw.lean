/- The walk of MarkSays. -/
import Derived.Test.YtbgbcmfgncneiaaMark4
namespace Go.Proofs.Ytbgbcmfgncneiaa
open Go.RowKit
set_option linter.unusedVariables false
set_option linter.unusedSimpArgs false

def zLit : Array Value := #[.int .i64 0, .int .i64 0, .int .i64 0, .int .i64 0, .int .i64 0, .int .i64 0, .int .i64 0, .int .i64 0, .int .i64 0, .int .i64 0, .int .i64 0, .int .i64 0, .int .i64 0, .int .i64 0, .int .i64 0, .int .i64 0, .int .i64 0, .int .i64 0, .int .i64 0, .int .i64 0, .int .i64 0, .int .i64 0, .int .i64 0, .int .i64 0, .int .i64 0, .int .i64 0]

theorem setX_len {xs : List Int} (h : xs.length = 26) (name k : Int) : (setX xs name k).length = 26 := by
  unfold setX
  split
  · rfl
  · split
    · rfl
    · simpa using h

set_option maxRecDepth 100000 in
set_option maxHeartbeats 16000000 in
theorem markSays_walk (n : Int) (a : Option Addr) (m mc : Nat) (es : List Sp) (k : Int) (stick : Bool) (xs : List Int) (name : Int) (w : World) (he : Spls w a es) (hm : es.length = m) (hm2 : m ≤ 9223372036854775807) (hx : xs.length = 26) (hk1 : -9223372036854775808 ≤ k) (hk2 : k ≤ 9223372036854775807) :
    Calls Try.prog 3 #[.int .i64 n, .slice a m mc, .int .i64 k, .bool stick, .agg (mkA xs), .int .i64 name] w fun e w' => e = .returned (.bool true) ∧ Below w.heap.size w w' := by
  have HX := Lib.hid hx
  have HM := Lib.hid hm
  have HS26 := Lib.hid (setX_len hx name k)
  have HD26 := Lib.hid (mdX_len (n := n) (es := es) hx)
  clear hx hm
  obtain ⟨E, hE⟩ : ∃ E, ckE n es = E := ⟨_, rfl⟩
  have HE := Lib.hid hE
  obtain ⟨X16, h16⟩ : ∃ v, setX xs name k = v := ⟨_, rfl⟩
  obtain ⟨E17, h17⟩ : ∃ v, setE name k = v := ⟨_, rfl⟩
  obtain ⟨V18, h18⟩ : ∃ v, getV xs name = v := ⟨_, rfl⟩
  obtain ⟨E19, h19⟩ : ∃ v, getE xs name = v := ⟨_, rfl⟩
  obtain ⟨X20, h20⟩ : ∃ v, mdX n es xs = v := ⟨_, rfl⟩
  obtain ⟨V14, h14⟩ : ∃ v, movV n es k stick = v := ⟨_, rfl⟩
  obtain ⟨E15, h15⟩ : ∃ v, movE n es k = v := ⟨_, rfl⟩
  have H16 := Lib.hid h16
  have H17 := Lib.hid h17
  have H18 := Lib.hid h18
  have H19 := Lib.hid h19
  have H20 := Lib.hid h20
  have H14 := Lib.hid h14
  have H15 := Lib.hid h15
  rw [h16] at HS26
  rw [h20] at HD26
  clear hE h14 h15 h16 h17 h18 h19 h20
  have hal := alloc_marks
  have hB0 := BlkL.new w xs 24
  have hacc := below1 w (.cells (mkA xs) 24)
  have he0 := he.below hacc
  go_enter Try.func3, Try.ntmps3
  go_upto_region 1 with fail
  generalize w.alloc (.cells (mkA xs) 24) = w1 at *
  go_wp2_with fail
  refine (ref_editErr a m mc es n w1 he0 HM.out hm2).mono ?_
  rintro e w2 ⟨rfl, hb⟩
  rw [HE.out]
  replace hB0 := hB0.below hb hB0.lt
  replace hacc := below_then hacc hacc.size hb
  replace he0 := he0.below hb
  clear hb
  go_wp2_with fail
  refine (mark_move a m mc es n k stick w2 he0 HM.out hm2).mono ?_
  rintro e w3 ⟨rfl, hb⟩
  rw [H14.out, H15.out]
  replace hB0 := hB0.below hb hB0.lt
  replace hacc := below_then hacc hacc.size hb
  replace he0 := he0.below hb
  clear hb
  clear hk1 hk2
  go_wp2_with (refine marks_load rfl _ rfl w.heap.size rfl xs _ hB0 HX.out ?_)
  refine (mark_set xs name k w3 HX.out).mono ?_
  rintro e w4 ⟨rfl, hb⟩
  rw [H16.out, H17.out]
  replace hB0 := hB0.below hb hB0.lt
  have h04 : w.heap.size < w4.heap.size := hB0.lt
  replace hB0 := hB0.alloc (.cells (mkA z26) 24)
  replace hacc := (below_then hacc hacc.size hb)
  have hs4 := hacc.size
  replace hacc := hacc.alloc hacc.size (.cells (mkA z26) 24)
  replace he0 := (he0.below hb).below (below1 w4 (.cells (mkA z26) 24))
  have hB1 := BlkL.new w4 z26 24
  clear hb
  have hlt := hB0.lt
  go_wp2_with (first | (refine marks_store rfl _ _ rfl w4.heap.size rfl X16 rfl z26 _ hB1 rfl HS26.out ?_; intro w5 hB16 hL5; replace hB0 := hL5.blkL (by omega) hB0) | (refine marks_load rfl _ rfl w.heap.size rfl xs _ hB0 HX.out ?_))
  replace hacc := hL5.bel hs4 hacc
  replace he0 := he.below hacc
  refine (mark_get xs name w5 HX.out).mono ?_
  rintro e w6 ⟨rfl, hb⟩
  rw [H18.out, H19.out]
  replace hB0 := hB0.below hb hB0.lt
  replace hB16 := hB16.below hb hB16.lt
  replace hacc := below_then hacc hacc.size hb
  replace he0 := he0.below hb
  clear hb hlt
  go_wp2_with (refine marks_load rfl _ rfl w.heap.size rfl xs _ hB0 HX.out ?_)
  refine (mark_moved a m mc es n xs w6 he0 HM.out hm2 HX.out).mono ?_
  rintro e w7 ⟨rfl, hb⟩
  rw [HE.out, H20.out]
  replace hB0 := hB0.below hb hB0.lt
  replace hB16 := hB16.below hb hB16.lt
  have h07 : w.heap.size < w7.heap.size := hB0.lt
  have h47 : w4.heap.size < w7.heap.size := hB16.lt
  replace hB0 := hB0.alloc (.cells (mkA z26) 24)
  replace hB16 := hB16.alloc (.cells (mkA z26) 24)
  replace hacc := below_then hacc hacc.size hb
  have hs7 := hacc.size
  replace hacc := hacc.alloc hacc.size (.cells (mkA z26) 24)
  have hB2 := BlkL.new w7 z26 24
  clear hb
  go_upto_region 6 with (refine marks_store rfl _ _ rfl w7.heap.size rfl X20 rfl z26 _ hB2 rfl HD26.out ?_; intro w8 hB20 hL8)
  replace hB0 := hL8.blkL (by omega) hB0
  replace hB16 := hL8.blkL (by omega) hB16
  replace hacc := hL8.bel hs7 hacc
  clear hL8 hL5 hB2 hB1
  obtain ⟨nb, hnb⟩ : ∃ nb : Bool, decide (name < 97 ∨ 122 < name) = nb := ⟨_, rfl⟩
  have HNB := Lib.hid hnb
  clear hnb
  go_cut [65] (fun v wx => v = .bool nb ∧ w8 = wx)
  case first => as_aux_lemma =>
    by_cases h1 : name < 97
    · have hv : nb = true := by rw [← HNB.out]; simp; omega
      subst hv
      go_wp2
      go_meet
      exact ⟨rfl, rfl⟩
    · by_cases h2 : 122 < name
      · have hv : nb = true := by rw [← HNB.out]; simp; omega
        subst hv
        go_wp2
        go_meet
        exact ⟨congrArg Value.bool (by simp <;> omega), rfl⟩
      · have hv : nb = false := by rw [← HNB.out]; simp; omega
        subst hv
        go_wp2
        go_meet
        exact ⟨congrArg Value.bool (by simp <;> omega), rfl⟩
  obtain ⟨rfl, rfl⟩ := hcut
  go_upto_if 65 with fail
  go_cut [12] (fun v wx => v = .bool false ∧ Below w8.heap.size w8 wx)
  case first => as_aux_lemma =>
    have hneq : ∀ W : World, (binOp .neq 24 (.agg (mkA z26)) (.agg #[.int .i64 0, .int .i64 0, .int .i64 0, .int .i64 0, .int .i64 0, .int .i64 0, .int .i64 0, .int .i64 0, .int .i64 0, .int .i64 0, .int .i64 0, .int .i64 0, .int .i64 0, .int .i64 0, .int .i64 0, .int .i64 0, .int .i64 0, .int .i64 0, .int .i64 0, .int .i64 0, .int .i64 0, .int .i64 0, .int .i64 0, .int .i64 0, .int .i64 0, .int .i64 0])).run Try.prog W = .ok (.bool false) W := fun W => neq_mk z26 rfl W
    have hgd := guard_marks
    cases nb with
    | true =>
      have hno : ¬ (97 ≤ name ∧ name ≤ 122) := by have := HNB.out; simp at this; omega
      obtain rfl : X16 = z26 := by rw [← H16.out, setX, if_pos hno]
      obtain rfl : E17 = 9 := by rw [← H17.out, setE, if_pos hno]
      obtain rfl : V18 = 0 := by rw [← H18.out, getV, if_pos hno]
      obtain rfl : E19 = 9 := by rw [← H19.out, getE, if_pos hno]
      go_wp2_with (refine marks_load rfl _ rfl w4.heap.size rfl z26 _ hB16 rfl ?_)
      go_meet
      exact ⟨rfl, Below.refl _ _⟩
    | false =>
      have hin : 97 ≤ name ∧ name ≤ 122 := by have := HNB.out; simp at this; omega
      obtain ⟨j, hj⟩ : ∃ j : Nat, name = (j : Int) + 97 := ⟨(name - 97).toNat, by omega⟩
      subst hj
      have hj26 : j < 26 := by omega
      have hjx : j < xs.length := by rw [HX.out]; exact hj26
      have hjn : ((j : Int) + 97 - 97).toNat = j := by omega
      have i0 : (j : Int) < 26 := by omega
      have h16' := H16.out
      have h17' := H17.out
      have h18' := H18.out
      have h19' := H19.out
      rw [setX, if_neg (not_not_intro hin), hjn] at h16'
      rw [setE, if_neg (not_not_intro hin)] at h17'
      rw [getV, if_neg (not_not_intro hin), hjn] at h18'
      rw [getE, if_neg (not_not_intro hin), hjn] at h19'
      have G16 := Lib.hid h16'
      have G17 := Lib.hid h17'
      have G18 := Lib.hid h18'
      have G19 := Lib.hid h19'
      clear h16' h17' h18' h19' hjn hin
      have hb8 := below1 w8 (.cells (mkA z26) 24)
      have hB0a := hB0.alloc (.cells (mkA z26) 24)
      have hB16a := hB16.alloc (.cells (mkA z26) 24)
      have hB2 := BlkL.new w8 z26 24
      have q0 := hB0.lt
      have q16 := hB16.lt
      go_upto_region 10 with (first | (refine marks_store rfl _ _ rfl w8.heap.size rfl xs rfl z26 _ hB2 rfl HX.out ?_; intro w9 hB22 hL9) | (refine marks_load rfl _ rfl w.heap.size rfl xs _ hB0 HX.out ?_))
      have hB09 := hL9.blkL (by omega) hB0a
      have hB169 := hL9.blkL (by omega) hB16a
      have hb9 := hL9.bel (Nat.le_refl _) hb8
      clear hL9 hB2 hb8 hB0a hB16a
      have f22 := hB22.free j
      have c22 := hB22.cell hjx
      have c10 := hB09.cell hjx
      obtain ⟨kb, hkb⟩ : ∃ kb : Bool, decide (0 ≤ k ∧ k ≤ 4096) = kb := ⟨_, rfl⟩
      have HKB := Lib.hid hkb
      clear hkb
      simp only [Act.put, List.setIfInBounds_toArray, List.set_cons_succ, List.set_cons_zero]
      go_cut [12] (fun v wx => v = .bool false ∧ ∃ ys : List Int, Hid (kb = true → ys = X16) ∧ BlkL wx w8.heap.size ys 24 ∧ BlkL wx w.heap.size xs 24 ∧ BlkL wx w4.heap.size X16 24 ∧ Below w8.heap.size w8 wx)
      case first => as_aux_lemma =>
        cases kb with
        | false =>
          have hB0' := fun v => hB09.other (a := ⟨w8.heap.size, j, none⟩) (by show w.heap.size ≠ w8.heap.size; omega) (.int .i64 v)
          have hB16' := fun v => hB169.other (a := ⟨w8.heap.size, j, none⟩) (by show w4.heap.size ≠ w8.heap.size; omega) (.int .i64 v)
          have hB22' := fun v => hB22.set j v
          have hb' := fun v => hb9.setCell (p := ⟨w8.heap.size, j, none⟩) (Nat.le_refl _) (.int .i64 v)
          go_wp2
          go_meet
          exact ⟨rfl, _, Lib.hid (by simp), hB22' _, hB0' _, hB16' _, hb' _⟩
        | true =>
          have hkr : ¬ (k < 0 ∨ 4096 < k) := by have := HKB.out; simp at this; omega
          have k1 : 0 ≤ k := by omega
          have k2 : k ≤ 4096 := by omega
          have e16 := G16.out
          rw [if_neg hkr] at e16
          have hB0x := hB09.other (a := ⟨w8.heap.size, j, none⟩) (by show w.heap.size ≠ w8.heap.size; omega) (.int .i64 (k + 1))
          have hB16x := hB169.other (a := ⟨w8.heap.size, j, none⟩) (by show w4.heap.size ≠ w8.heap.size; omega) (.int .i64 (k + 1))
          have hB22x := hB22.set j (k + 1)
          have hbx := hb9.setCell (p := ⟨w8.heap.size, j, none⟩) (Nat.le_refl _) (.int .i64 (k + 1))
          rw [e16] at hB22x
          clear hkr e16
          go_wp2
          go_meet
          exact ⟨rfl, _, Lib.hid (fun _ => rfl), hB22x, hB0x, hB16x, hbx⟩
      clear hb9 hB09 hB169 hB22 c22 c10 f22
      obtain ⟨rfl, ys, HYS, hB22, hB0x, hB16x, hbx⟩ := hcut
      go_upto_region 11 with fail
      go_cut [23] (fun v w' => v = .bool kb ∧ wc = w')
      case first => as_aux_lemma =>
        by_cases h1 : 0 ≤ k
        · by_cases h2 : k ≤ 4096
          · have hv : kb = true := by rw [← HKB.out]; simp; omega
            subst hv
            go_wp2
            go_meet
            exact ⟨rfl, rfl⟩
          · have hv : kb = false := by rw [← HKB.out]; simp; omega
            have h2' : decide (k ≤ 4096) = false := by simp; omega
            subst hv
            go_wp2
            go_meet
            exact ⟨rfl, rfl⟩
        · have hv : kb = false := by rw [← HKB.out]; simp; omega
          have h1' : decide (0 ≤ k) = false := by simp; omega
          subst hv
          go_wp2
          go_meet
          exact ⟨rfl, rfl⟩
      obtain ⟨rfl, rfl⟩ := hcut
      go_upto_region 12 with fail
      go_cut [115] (fun v w' => v = .bool false ∧ wc = w')
      case first => as_aux_lemma =>
        cases kb with
        | true =>
          have hkr : ¬ (k < 0 ∨ 4096 < k) := by have := HKB.out; simp at this; omega
          have e17 := G17.out
          rw [if_neg hkr] at e17
          subst e17
          obtain rfl := HYS.out rfl
          have hneq2 := neq_mk ys HS26.out
          clear hkr
          go_wp2_with (show wpList _ _ _ (⟨some 95, _, _, _, _, _⟩ :: _) _ _; revert hneq2)
          intro hneq2
          refine marks_load_g (by rfl) (.tmp 16) rfl w4.heap.size rfl ys _ hB16x HS26.out ?_
          simp only [Act.put, List.setIfInBounds_toArray, List.set_cons_succ, List.set_cons_zero]
          refine marks_load_g (by rfl) (.tmp 22) rfl w8.heap.size rfl ys _ hB22 HS26.out ?_
          simp only [Act.put, List.setIfInBounds_toArray, List.set_cons_succ, List.set_cons_zero]
          refine marks_neq (by rfl) (.tmp 95) (.tmp 96) _ rfl ys rfl rfl HS26.out ?_
          simp only [Act.put, List.setIfInBounds_toArray, List.set_cons_succ, List.set_cons_zero]
          go_wp2
          go_meet
          exact ⟨rfl, rfl⟩
        | false =>
          have hkr : k < 0 ∨ 4096 < k := by have := HKB.out; simp at this; omega
          have e16 := G16.out
          have e17 := G17.out
          rw [if_pos hkr] at e16 e17
          subst e16 e17
          clear hkr
          go_wp2_with (show wpList _ _ _ (⟨some 107, _, _, _, _, _⟩ :: _) _ _; revert hneq)
          intro hneq
          refine marks_load_g (by rfl) (.tmp 16) rfl w4.heap.size rfl z26 _ hB16x rfl ?_
          simp only [Act.put, List.setIfInBounds_toArray, List.set_cons_succ, List.set_cons_zero]
          go_wp2_with (show wpList _ _ _ (⟨some 109, _, _, _, _, _⟩ :: _) _ _; revert hneq)
          intro hneq
          refine marks_neq (by rfl) (.tmp 107) (.tmp 108) _ rfl z26 rfl rfl rfl ?_
          simp only [Act.put, List.setIfInBounds_toArray, List.set_cons_succ, List.set_cons_zero]
          go_wp2
          go_meet
          exact ⟨rfl, rfl⟩
      obtain ⟨rfl, rfl⟩ := hcut
      clear hneq hB16x hB22
      obtain ⟨x, hx⟩ : ∃ x, ix xs j = x := ⟨_, rfl⟩
      have e18 := G18.out
      have e19 := G19.out
      rw [hx] at e18 e19
      have cx := hB0x.cell hjx
      rw [hx] at cx
      clear hx
      by_cases hxr : x < 1 ∨ 4097 < x
      · rw [if_pos hxr] at e18 e19
        subst e18 e19
        rcases hxr with hxr | hxr
        all_goals
          go_wp2
          all_goals
            go_meet
            exact ⟨rfl, hbx⟩
      · rw [if_neg hxr] at e18 e19
        have x1 : 1 ≤ x := by omega
        have x2 : x ≤ 4097 := by omega
        subst e18 e19
        clear hxr
        go_wp2
        go_meet
        exact ⟨rfl, hbx⟩
  obtain ⟨rfl, hb⟩ := hcut
  replace hB0 := hB0.below hb hB0.lt
  replace hB20 := hB20.below hb hB20.lt
  replace hacc := below_then hacc hacc.size hb
  clear hb hB16
  by_cases hE0 : E = 0
  · subst hE0
    obtain ⟨g1, g2, hg, g3⟩ := ckE_good HE.out
    have HG := Lib.hid hg
    have hck : ¬ ckE n es ≠ 0 := by rw [HE.out]; simp
    obtain rfl : X20 = mvdX n es xs := by rw [← H20.out, mdX, if_neg hck]
    have h14 := H14.out
    have h15 := H15.out
    rw [movV, if_neg hck] at h14
    rw [movE, if_neg hck] at h15
    replace H14 := Lib.hid h14
    replace H15 := Lib.hid h15
    clear hg hck h14 h15 H16 H17 H18 H19 H20 hal
    as_aux_lemma =>
    go_upto_region 20 with fail
    go_wp2_with (refine marks_load rfl (.tmp 10) rfl w.heap.size rfl xs _ hB0 HX.out ?_)
    go_loopw [169] (fun j wr => ∃ i : Nat, j = .int .i64 (i : Int) ∧ i ≤ 26 ∧ BlkL wr w7.heap.size (mvdX n es xs) 24 ∧ Below w.heap.size w wr) (fun j _ => 26 - (intOf j).toNat)
    case atStart => exact ⟨0, rfl, by omega, hB20, hacc⟩
    case round =>
      clear hB20 hacc hB0
      obtain ⟨i, rfl, hi, hB20, hbr⟩ := hrel
      by_cases hlt : i < 26
      · have hix := index_mk xs HX.out i hlt
        have hi2 : i < xs.length := by rw [HX.out]; exact hlt
        have c20 := hB20.cell (i := i) (by rw [mvdX_len]; exact hi2)
        rw [mvdX_at hi2] at c20
        have i1 : (i : Int) < 26 := by omega
        generalize ix xs i = x at *
        by_cases hxr : x < 1 ∨ n + 1 < x
        · rw [newV, if_pos hxr] at c20
          rcases hxr with hxr | hxr
          all_goals
            go_wp2
            all_goals
              go_roundw
              case rel => exact ⟨i + 1, by go_num, by omega, hB20, hbr⟩
              case measure => simp [intOf]; omega
        · rw [newV, if_neg hxr] at c20
          have h1 : 1 ≤ x := by omega
          have h2 : x ≤ n + 1 := by omega
          have hbd := moved_bd HG.out (k := x - 1) (by omega) (by omega) (by omega) false
          have HMV := Lib.hid (show ∀ W, Spls W a es → Calls Try.prog 21 #[.slice a m mc, .int .i64 (x - 1), .bool false] W fun e w' => e = .returned (.int .i64 (moved es (x - 1) false)) ∧ Below W.heap.size W w' from fun W hW => ref_movedI a m mc es n (x - 1) false W hW HM.out HG.out (by omega) (by omega) (by omega))
          clear hxr
          generalize moved es (x - 1) false = mv at *
          go_wp2_with (go_at_call 21; refine (HMV.out _ (he.below hbr)).mono ?_; rintro e w4 ⟨rfl, hb4⟩; replace c20 := below_keeps hb4 _ _ c20)
          go_roundw
          case rel => exact ⟨i + 1, by go_num, by omega, hB20.below hb4 hB20.lt, below_then hbr hbr.size hb4⟩
          case measure => simp [intOf]; omega
      · obtain rfl : i = 26 := by omega
        have e14 := H14.out
        have e15 := H15.out
        by_cases hkr : k < 0 ∨ n < k
        · rw [if_pos hkr] at e14 e15
          subst e14 e15
          rcases hkr with hkr | hkr
          all_goals
            go_wp2
            all_goals
              go_ret
              exact ⟨rfl, hbr⟩
        · rw [if_neg hkr] at e14 e15
          subst e15
          have k1 : 0 ≤ k := by omega
          have k2 : k ≤ n := by omega
          have k1' : decide (k < 0) = false := by simp; omega
          have k2' : decide (n < k) = false := by simp; omega
          have E14 := Lib.hid e14
          clear e14 hkr
          go_wp2_with (go_at_call 21; refine (ref_movedI a m mc es n k stick _ (he.below hbr) HM.out HG.out k1 k2 (by omega)).mono ?_; rintro e w4 ⟨rfl, hb4⟩; rw [E14.out])
          go_ret
          exact ⟨rfl, below_then hbr hbr.size hb4⟩
  · have g : (E != 0) = true := by simpa using hE0
    have hck : ckE n es ≠ 0 := by rw [HE.out]; exact hE0
    obtain rfl : X20 = z26 := by rw [← H20.out, mdX, if_pos hck]
    obtain rfl : V14 = 0 := by rw [← H14.out, movV, if_pos hck]
    obtain rfl : E15 = E := by rw [← H15.out, movE, if_pos hck, HE.out]
    have heql : ∀ W : World, (binOp .eql 24 (.agg (mkA z26)) (.agg #[.int .i64 0, .int .i64 0, .int .i64 0, .int .i64 0, .int .i64 0, .int .i64 0, .int .i64 0, .int .i64 0, .int .i64 0, .int .i64 0, .int .i64 0, .int .i64 0, .int .i64 0, .int .i64 0, .int .i64 0, .int .i64 0, .int .i64 0, .int .i64 0, .int .i64 0, .int .i64 0, .int .i64 0, .int .i64 0, .int .i64 0, .int .i64 0, .int .i64 0, .int .i64 0])).run Try.prog W = .ok (.bool true) W := fun W => eql_mk z26 rfl W
    have hgd := guard_marks
    clear hE0
    go_wp2_with (first | (refine marks_load_g (by kernel_rfl) (.tmp 20) rfl w7.heap.size rfl z26 _ hB20 rfl ?_) | (refine marks_eql (by kernel_rfl) (.tmp 159) (.tmp 160) _ rfl z26 rfl rfl rfl ?_))
    go_ret
    exact ⟨rfl, hacc⟩

end Go.Proofs.Ytbgbcmfgncneiaa
