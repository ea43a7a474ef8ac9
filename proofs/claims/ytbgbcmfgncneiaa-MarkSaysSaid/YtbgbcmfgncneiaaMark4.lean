/- Contract of mark.Moved. -/
import Derived.Test.YtbgbcmfgncneiaaMark3
namespace Go.Proofs.Ytbgbcmfgncneiaa
open Go.RowKit
set_option linter.unusedVariables false
set_option linter.unusedSimpArgs false

theorem remP_le {n : Int} {es : List Sp} {last : Int} (h : Good n last es) (hl : -1 ≤ last) : ∀ k : Nat, remP k es ≤ k := by
  intro k
  induction k with
  | zero => rw [show ((0 : Nat) : Int) = 0 from rfl, remP_zero h hl]; omega
  | succ k ih =>
    rw [show ((k + 1 : Nat) : Int) = (k : Int) + 1 from by omega, remP_step h]
    split <;> omega
theorem moved_bd {n : Int} {es : List Sp} {k : Int} (h : Good n (-1) es) (h0 : 0 ≤ k) (h1 : k ≤ n) (hn : n ≤ 4096) (stick : Bool) : 0 ≤ moved es k stick ∧ moved es k stick ≤ 16789504 := by
  obtain ⟨j, rfl⟩ := Int.eq_ofNat_of_zero_le h0
  have a := remP_le h (by omega) j
  have b := remP_bd h (j : Int)
  have c := addP_bd (j : Int) stick es
  have d := addP_le h (j : Int) stick
  have e := h.count0 (by omega)
  unfold moved
  omega

/-- a mark behind an edit -/
def newV (n : Int) (es : List Sp) (x : Int) : Int := if x < 1 ∨ n + 1 < x then 0 else moved es (x - 1) false + 1
def mvdX (n : Int) (es : List Sp) (xs : List Int) : List Int := xs.map (newV n es)
def mdX (n : Int) (es : List Sp) (xs : List Int) : List Int := if ckE n es ≠ 0 then z26 else mvdX n es xs
theorem mvdX_len {n : Int} {es : List Sp} {xs : List Int} : (mvdX n es xs).length = xs.length := by simp [mvdX]
theorem mvdX_at {n : Int} {es : List Sp} {xs : List Int} {i : Nat} (h : i < xs.length) : ix (mvdX n es xs) i = newV n es (ix xs i) := by
  rw [ix_eq (by rw [mvdX_len]; exact h), ix_eq h]; simp [mvdX]
theorem mdX_len {n : Int} {es : List Sp} {xs : List Int} (h : xs.length = 26) : (mdX n es xs).length = 26 := by
  unfold mdX; split
  · rfl
  · rw [mvdX_len, h]
theorem mix_set {A B : List Int} {k : Nat} (hl : A.length = B.length) (hk : k < A.length) : (A.take k ++ B.drop k).set k (ix A k) = A.take (k + 1) ++ B.drop (k + 1) := by
  rw [take_succ_ix hk, List.append_assoc]
  rw [List.set_append_right _ _ (by simp; omega)]
  rw [List.length_take, Nat.min_eq_left (by omega), Nat.sub_self]
  have hd := List.drop_eq_getElem_cons (l := B) (i := k) (by omega)
  rw [hd]
  rfl
theorem mix_ix {A B : List Int} {k : Nat} (hl : A.length = B.length) (hk : k < A.length) : (A.take k ++ B.drop k).length = B.length := by simp; omega

set_option maxRecDepth 100000 in
set_option maxHeartbeats 1000000 in
theorem mark_moved_bad (a : Option Addr) (m mc : Nat) (es : List Sp) (n E : Int) (xs : List Int) (w : World) (he : Spls w a es) (hm : es.length = m) (hm2 : m ≤ 9223372036854775807) (hE : ckE n es = E) (hok : E ≠ 0) :
    Calls Try.prog 20 #[.int .i64 n, .slice a m mc, .agg (mkA xs)] w (SetPost z26 E w) := by
  have HE := Lib.hid hE
  have g : (E != 0) = true := by simpa using hok
  clear hE hok
  have hal := alloc_marks
  have hB1 := BlkL.new (w.alloc (.cells (mkA xs) 24)) z26 24
  have hacc := below2 w (.cells (mkA xs) 24) (.cells (mkA z26) 24)
  rw [World.size_alloc] at hB1
  have he1 := he.below hacc
  go_enter Try.func20, Try.ntmps20
  go_upto_region 1 with fail
  change Code.wp _ _ _ _ ((w.alloc (.cells (mkA xs) 24)).alloc (.cells (mkA z26) 24))
  generalize (w.alloc (.cells (mkA xs) 24)).alloc (.cells (mkA z26) 24) = w1 at *
  go_wp2_with fail
  refine (splice_check a m mc es n w1 he1 hm hm2).mono ?_
  rintro e w2 ⟨rfl, hb⟩
  rw [HE.out]
  have hB2 := hB1.below hb hB1.lt
  have hacc2 := below_then hacc hacc.size hb
  go_wp2_with (refine marks_store rfl _ _ rfl (w.heap.size + 1) rfl z26 rfl z26 _ hB2 rfl rfl ?_; intro w3 hB3 hL3)
  have hld := marks_loadVar hB3 rfl
  exact bodyPost_ret (results_ct Try.results20 rfl hld) rfl ⟨rfl, hL3.bel (by omega) hacc2⟩

set_option maxRecDepth 100000 in
set_option maxHeartbeats 2000000 in
theorem mark_moved_ok (a : Option Addr) (m mc : Nat) (es : List Sp) (n : Int) (xs : List Int) (w : World) (he : Spls w a es) (hm : es.length = m) (hm2 : m ≤ 9223372036854775807) (hE : ckE n es = 0) (hx : xs.length = 26) :
    Calls Try.prog 20 #[.int .i64 n, .slice a m mc, .agg (mkA xs)] w (SetPost (mvdX n es xs) 0 w) := by
  obtain ⟨g1, g2, hg, g3⟩ := ckE_good hE
  have HG := Lib.hid hg
  have HE := Lib.hid hE
  have HX := Lib.hid hx
  have HM := Lib.hid hm
  clear hE hg hx hm
  have hal := alloc_marks
  have hB0 := (BlkL.new w xs 24).alloc (.cells (mkA z26) 24)
  have hB1 := BlkL.new (w.alloc (.cells (mkA xs) 24)) z26 24
  have hacc := below2 w (.cells (mkA xs) 24) (.cells (mkA z26) 24)
  rw [World.size_alloc] at hB1
  have he1 := he.below hacc
  go_enter Try.func20, Try.ntmps20
  go_upto_region 1 with fail
  change Code.wp _ _ _ _ ((w.alloc (.cells (mkA xs) 24)).alloc (.cells (mkA z26) 24))
  generalize (w.alloc (.cells (mkA xs) 24)).alloc (.cells (mkA z26) 24) = w1 at *
  go_wp2_with fail
  refine (splice_check a m mc es n w1 he1 HM.out hm2).mono ?_
  rintro e w2 ⟨rfl, hb⟩
  rw [HE.out]
  have hB0 := hB0.below hb hB0.lt
  have hB1 := hB1.below hb hB1.lt
  have hacc2 := below_then hacc hacc.size hb
  go_wp2_with (refine marks_load rfl _ rfl w.heap.size rfl xs _ hB0 HX.out ?_)
  go_loopw [21] (fun j wr => ∃ k : Nat, j = .int .i64 (k : Int) ∧ k ≤ 26 ∧ BlkL wr w.heap.size ((mvdX n es xs).take k ++ xs.drop k) 24 ∧ BlkL wr (w.heap.size + 1) z26 24 ∧ Below w.heap.size w wr) (fun j _ => 26 - (intOf j).toNat)
  case atStart => exact ⟨0, rfl, by omega, by simpa using hB0, hB1, hacc2⟩
  case round =>
    clear hB0 hB1 hacc hacc2 hb
    obtain ⟨k, rfl, hk, hB0, hB1, hbr⟩ := hrel
    by_cases hlt : k < 26
    · have hix := index_mk xs HX.out k hlt
      have hk2 : k < xs.length := by rw [HX.out]; exact hlt
      have hst := mix_set (A := mvdX n es xs) (B := xs) (k := k) mvdX_len (by rw [mvdX_len]; exact hk2)
      have hmx := mvdX_at (n := n) (es := es) hk2
      have hml := mix_ix (A := mvdX n es xs) (B := xs) (k := k) mvdX_len (by rw [mvdX_len]; exact hk2)
      have c0 := hB0.cell (i := k) (by rw [hml]; exact hk2)
      have f0 := hB0.free k
      have i1 : (k : Int) < 26 := by omega
      rw [hmx] at hst
      generalize ix xs k = x at *
      have hs : ∀ v, newV n es x = v → ((mvdX n es xs).take k ++ xs.drop k).set k v = (mvdX n es xs).take (k + 1) ++ xs.drop (k + 1) := by
        intro v hv
        rw [← hst, hv]
      by_cases hxr : x < 1 ∨ n + 1 < x
      · have hS := hB0.set k 0
        rw [hs 0 (by rw [newV, if_pos hxr])] at hS
        clear hs hst hmx hml
        have hz : Below w.heap.size w (wr.setCell ⟨w.heap.size, k, none⟩ (.int .i64 0)) := hbr.setCell (p := ⟨w.heap.size, k, none⟩) (Nat.le_refl _) _
        have hB2 := hB1.other (a := ⟨w.heap.size, k, none⟩) (by simp) (.int .i64 0)
        rcases hxr with hxr | hxr
        all_goals
          go_wp2
          all_goals
            go_roundw
            case rel => exact ⟨k + 1, by go_num, by omega, hS, hB2, hz⟩
            case measure => simp [intOf]; omega
      · have h1 : 1 ≤ x := by omega
        have h2 : x ≤ n + 1 := by omega
        have hv : movV n es (x - 1) false = moved es (x - 1) false := by unfold movV; rw [if_neg (by rw [HE.out]; simp), if_neg (by omega)]
        have hbd := moved_bd HG.out (k := x - 1) (by omega) (by omega) (by omega) false
        have HV := Lib.hid hv
        have HS := Lib.hid (hs (moved es (x - 1) false + 1) (by rw [newV, if_neg hxr]))
        clear hs hst hmx hml hv hxr
        have hlt0 : w.heap.size < wr.heap.size := hB0.lt
        have hlt1 : w.heap.size + 1 < wr.heap.size := hB1.lt
        generalize moved es (x - 1) false = mv at *
        go_wp2_with (go_at_call 17; refine (mark_move a m mc es n (x - 1) false _ (he.below hbr) HM.out hm2).mono ?_; rintro e w4 ⟨rfl, hb4⟩; rw [HV.out]; have c4 := below_keeps hb4 _ _ c0; have f4 : w4.frozen? ⟨w.heap.size, k, none⟩ = false := (hB0.below hb4 hlt0).free k)
        have hS := (hB0.below hb4 hlt0).set k (mv + 1)
        rw [HS.out] at hS
        have hB2 := (hB1.below hb4 hlt1).other (a := ⟨w.heap.size, k, none⟩) (by simp) (.int .i64 (mv + 1))
        have hz : Below w.heap.size w (w4.setCell ⟨w.heap.size, k, none⟩ (.int .i64 (mv + 1))) := (below_then hbr hbr.size hb4).setCell (p := ⟨w.heap.size, k, none⟩) (Nat.le_refl _) _
        go_roundw
        case rel => exact ⟨k + 1, by go_num, by omega, hS, hB2, hz⟩
        case measure => simp [intOf]; omega
    · obtain rfl : k = 26 := by omega
      rw [List.take_of_length_le (by rw [mvdX_len, HX.out]; omega), List.drop_eq_nil_of_le (by rw [HX.out]; omega), List.append_nil] at hB0
      have HL := Lib.hid (show (mvdX n es xs).length = 26 by rw [mvdX_len, HX.out])
      go_wp2_with (first | (refine marks_load rfl _ rfl w.heap.size rfl (mvdX n es xs) _ hB0 HL.out ?_) | (refine marks_store rfl _ _ rfl (w.heap.size + 1) rfl (mvdX n es xs) rfl z26 _ hB1 rfl HL.out ?_; intro w3 hB3 hL3))
      have hld := marks_loadVar hB3 HL.out
      exact bodyPost_ret (results_ct Try.results20 rfl hld) rfl ⟨rfl, hL3.bel (by omega) hbr⟩

def mdE (n : Int) (es : List Sp) : Int := ckE n es
theorem mark_moved (a : Option Addr) (m mc : Nat) (es : List Sp) (n : Int) (xs : List Int) (w : World) (he : Spls w a es) (hm : es.length = m) (hm2 : m ≤ 9223372036854775807) (hx : xs.length = 26) :
    Calls Try.prog 20 #[.int .i64 n, .slice a m mc, .agg (mkA xs)] w (SetPost (mdX n es xs) (ckE n es) w) := by
  unfold mdX
  by_cases h : ckE n es ≠ 0
  · rw [if_pos h]
    exact mark_moved_bad a m mc es n _ xs w he hm hm2 rfl h
  · rw [if_neg h]
    have h0 : ckE n es = 0 := by simpa using h
    rw [h0]
    exact mark_moved_ok a m mc es n xs w he hm hm2 h0 hx

end Go.Proofs.Ytbgbcmfgncneiaa
