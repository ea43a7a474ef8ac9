/- The walk of FeedSays. -/
import Derived.Test.YtmipnikhgihcpaaFeedU
namespace Go.Proofs.Ytmipnikhgihcpaa
open Go.RowKit
set_option linter.unusedVariables false
set_option linter.unusedSimpArgs false

set_option maxRecDepth 100000 in
set_option maxHeartbeats 4000000 in
theorem feedSays_wrong (p s : ByteArray) (w : World) (hp : p.size ≤ 1048576) (h0 : p.size ≠ 0) (hb : begV p = false) :
    Calls Try.prog 4 #[.string p, .string s] w fun e w' => e = .returned (.bool true) ∧ Below w.heap.size w w' := by
  have hr := runS_wrong h0 hb
  have HBG := Lib.hid (ref_begins p)
  rw [hb] at HBG
  have HF := Lib.hid (fun w => feed_feed_bad p s w (by omega) hr)
  have HE := Lib.hid (fun w => feed_end_bad p w (by omega) hr)
  have HC := Lib.hid (fun w => feed_check p w (by omega))
  rw [if_neg hr] at HC
  have hE := isE p
  have hE2 : p.toList.isEmpty = false := by rw [hE]; simpa using h0
  clear hr hb hE h0
  go_enter Try.func4, Try.ntmps4
  go_wp2_with fail
  refine (HBG.out _).mono ?_
  rintro e w1 ⟨rfl, hb⟩
  go_wp2_with fail
  refine (HF.out _).mono ?_
  rintro e w2 ⟨v2, rfl, ho2, hb2⟩
  have hb := below_then hb hb.size hb2
  go_wp2_with fail
  refine (HE.out _).mono ?_
  rintro e w3 ⟨v3, rfl, ho3, hb3⟩
  have ho2 := ho2.kept hb3
  have hb := below_then hb hb.size hb3
  obtain ⟨a2, n2, k2, rfl⟩ := ho2.form
  obtain ⟨a3, n3, k3, rfl⟩ := ho3.form
  obtain rfl : 0 = n2 := ho2.get.1
  obtain rfl : 0 = n3 := ho3.get.1
  go_wp2_with fail
  refine (HC.out _).mono ?_
  rintro e w4 ⟨rfl, hb4⟩
  go_wp2
  go_ret
  exact ⟨rfl, below_then hb hb.size hb4⟩

set_option maxRecDepth 100000 in
set_option maxHeartbeats 8000000 in
theorem feedSays_el (p s : ByteArray) (w : World) (hp : p.size ≤ 1048576) (h0 : p.size = 0) (hl : 4096 < s.size) (hs : s.size ≤ 1048576) :
    Calls Try.prog 4 #[.string p, .string s] w fun e w' => e = .returned (.bool true) ∧ Below w.heap.size w w' := by
  have hr := runS_right (.inl h0)
  have hro : (runS p).out = [] := by rw [hr]
  have hbk : (runS p).brk.out = [] := by
    rw [hr]; unfold MS.brk
    rw [if_pos (by show bsL p = []; exact bsL_nil h0)]
  have HF := Lib.hid (fun w => feed_feed_large p s w (by omega) hro hl)
  have i1 : (4096 : Int) < (s.size : Int) := by omega
  have HE := Lib.hid (fun w => feed_end_ok p w hp hro)
  rw [hbk] at HE
  have HC := Lib.hid (fun w => feed_check p w (by omega))
  rw [if_pos hro] at HC
  have hE := isE p
  have hE2 : p.toList.isEmpty = true := by rw [hE]; simpa using h0
  have i2 : (p.size : Int) = 0 := by omega
  clear hr hE hro hbk h0
  go_enter Try.func4, Try.ntmps4
  have hb := Below.refl w.heap.size w
  go_wp2_with fail
  refine (HF.out _).mono ?_
  rintro e w2 ⟨v2, rfl, ho2, hb2⟩
  have hb := below_then hb hb.size hb2
  go_wp2_with fail
  refine (HE.out _).mono ?_
  rintro e w3 ⟨v3, rfl, ho3, hb3⟩
  have ho2 := ho2.kept hb3
  have hb := below_then hb hb.size hb3
  obtain ⟨a2, n2, k2, rfl⟩ := ho2.form
  obtain ⟨a3, n3, k3, rfl⟩ := ho3.form
  obtain rfl : 0 = n3 := ho3.get.1
  obtain rfl : 0 = n2 := ho2.get.1
  go_wp2_with fail
  refine (HC.out _).mono ?_
  rintro e w4 ⟨rfl, hb4⟩
  have hb := below_then hb hb.size hb4
  go_wp2
  go_ret
  exact ⟨rfl, hb⟩

set_option maxRecDepth 100000 in
set_option maxHeartbeats 8000000 in
theorem feedSays_eo (p s : ByteArray) (w : World) (hp : p.size ≤ 1048576) (h0 : p.size = 0) (hl : s.size ≤ 4096) :
    Calls Try.prog 4 #[.string p, .string s] w fun e w' => e = .returned (.bool true) ∧ Below w.heap.size w w' := by
  have hr := runS_right (.inl h0)
  have hro : (runS p).out = [] := by rw [hr]
  have hbk : (runS p).brk.out = [] := by
    rw [hr]; unfold MS.brk
    rw [if_pos (by show bsL p = []; exact bsL_nil h0)]
  have hps : (p ++ s).size = p.size + s.size := ByteArray.size_append
  have HF := Lib.hid (fun w => feed_feed_ok p s w hp hro hl)
  have HD := Lib.hid (fun w => ref_decode (p ++ s) w (by omega))
  rw [runS_dec (p ++ s)] at HF
  simp only [mkB_bsL] at HF
  generalize decS (p ++ s) = dd at *
  obtain ⟨q, dl⟩ := dd
  have i1 : ¬ (4096 : Int) < (s.size : Int) := by omega
  have HE := Lib.hid (fun w => feed_end_ok p w hp hro)
  rw [hbk] at HE
  have HC := Lib.hid (fun w => feed_check p w (by omega))
  rw [if_pos hro] at HC
  have hE := isE p
  have hE2 : p.toList.isEmpty = true := by rw [hE]; simpa using h0
  have i2 : (p.size : Int) = 0 := by omega
  clear hr hE hro hbk h0
  go_enter Try.func4, Try.ntmps4
  have hb := Below.refl w.heap.size w
  go_wp2_with fail
  refine (HF.out _).mono ?_
  rintro e w2 ⟨v2, rfl, ho2, hb2⟩
  have hb := below_then hb hb.size hb2
  go_wp2_with fail
  refine (HE.out _).mono ?_
  rintro e w3 ⟨v3, rfl, ho3, hb3⟩
  have ho2 := ho2.kept hb3
  have hb := below_then hb hb.size hb3
  obtain ⟨a2, n2, k2, rfl⟩ := ho2.form
  obtain ⟨a3, n3, k3, rfl⟩ := ho3.form
  obtain rfl : 0 = n3 := ho3.get.1
  go_wp2_with fail
  refine (HC.out _).mono ?_
  rintro e w4 ⟨rfl, hb4⟩
  have hb := below_then hb hb.size hb4
  have ho2 := ho2.kept hb4
  have HO2 := Lib.hid ho2
  clear ho2
  go_wp2_with fail
  refine (HD.out _).mono ?_
  rintro e w5 ⟨v5, rfl, ho5, hb5⟩
  have hb := below_then hb hb.size hb5
  obtain ⟨a5, n5, k5, rfl⟩ := ho5.form
  have ho6 := HO2.out.kept hb5
  have HG := Lib.hid (show _ ∧ _ from ⟨ho6.get, ho5.get⟩)
  have hnn : n2 ≤ 9223372036854775807 := by
    rcases ho6.2 with ⟨h1, h2⟩ | ⟨g2, cap2, cur2, h1, _, _, _, hm, _⟩
    · simp only [Value.slice.injEq] at h1; omega
    · simp only [Value.slice.injEq] at h1; unfold maxLen at hm; omega
  clear ho5 ho6
  go_wp2_with fail
  refine (slices_same a2 a5 n2 n5 k2 k5 dl _ HG.out.1.2.1 HG.out.2.2.1 HG.out.1.1 HG.out.2.1 hnn).mono ?_
  rintro e w6 ⟨rfl, q6, rfl⟩
  go_wp2
  go_ret
  exact ⟨rfl, below_drewN hb q6⟩

set_option maxRecDepth 100000 in
set_option maxHeartbeats 8000000 in
theorem feedSays_bl (p s : ByteArray) (w : World) (hp : p.size ≤ 1048576) (h0 : p.size ≠ 0) (hb0 : begV p = true) (hl : 4096 < s.size) (hs : s.size ≤ 1048576) :
    Calls Try.prog 4 #[.string p, .string s] w fun e w' => e = .returned (.bool true) ∧ Below w.heap.size w w' := by
  have hr := runS_right (.inr hb0)
  have hro : (runS p).out = [] := by rw [hr]
  have hbk : (runS p).brk.out = [65533] := by
    rw [hr]; unfold MS.brk
    rw [if_neg (by intro e; have := bsL_len p; simp only at e; rw [e] at this; simp at this; omega)]; rfl
  have HBG := Lib.hid (ref_begins p)
  rw [hb0] at HBG
  have HF := Lib.hid (fun w => feed_feed_large p s w (by omega) hro hl)
  have i1 : (4096 : Int) < (s.size : Int) := by omega
  have HE := Lib.hid (fun w => feed_end_ok p w hp hro)
  rw [hbk] at HE
  have HC := Lib.hid (fun w => feed_check p w (by omega))
  rw [if_pos hro] at HC
  have hE := isE p
  have hE2 : p.toList.isEmpty = false := by rw [hE]; simpa using h0
  have i2 : (1 : Int) ≤ (p.size : Int) := by omega
  clear hr hE hro hbk h0
  go_enter Try.func4, Try.ntmps4
  go_wp2_with fail
  refine (HBG.out _).mono ?_
  rintro e w1 ⟨rfl, hb⟩
  go_wp2_with fail
  refine (HF.out _).mono ?_
  rintro e w2 ⟨v2, rfl, ho2, hb2⟩
  have hb := below_then hb hb.size hb2
  go_wp2_with fail
  refine (HE.out _).mono ?_
  rintro e w3 ⟨v3, rfl, ho3, hb3⟩
  have ho2 := ho2.kept hb3
  have hb := below_then hb hb.size hb3
  obtain ⟨a2, n2, k2, rfl⟩ := ho2.form
  obtain ⟨a3, n3, k3, rfl⟩ := ho3.form
  obtain rfl : 1 = n3 := ho3.get.1
  obtain rfl : 0 = n2 := ho2.get.1
  go_wp2_with fail
  refine (HC.out _).mono ?_
  rintro e w4 ⟨rfl, hb4⟩
  have hb := below_then hb hb.size hb4
  have ho3 := ho3.kept hb4
  obtain ⟨bb, oo, rfl, hc1⟩ := ho3.get.2.1.at (k := 0) (by simp)
  have e1 := hc1 0 (by simp)
  rw [show ix [(65533 : Int)] 0 = 65533 from rfl, Nat.add_zero] at e1
  clear hc1
  go_wp2
  go_ret
  exact ⟨rfl, hb⟩

set_option maxRecDepth 100000 in
set_option maxHeartbeats 8000000 in
theorem feedSays_bo (p s : ByteArray) (w : World) (hp : p.size ≤ 1048576) (h0 : p.size ≠ 0) (hb0 : begV p = true) (hl : s.size ≤ 4096) :
    Calls Try.prog 4 #[.string p, .string s] w fun e w' => e = .returned (.bool true) ∧ Below w.heap.size w w' := by
  have hr := runS_right (.inr hb0)
  have hro : (runS p).out = [] := by rw [hr]
  have hbk : (runS p).brk.out = [65533] := by
    rw [hr]; unfold MS.brk
    rw [if_neg (by intro e; have := bsL_len p; simp only at e; rw [e] at this; simp at this; omega)]; rfl
  have HBG := Lib.hid (ref_begins p)
  rw [hb0] at HBG
  have hps : (p ++ s).size = p.size + s.size := ByteArray.size_append
  have HF := Lib.hid (fun w => feed_feed_ok p s w hp hro hl)
  have HD := Lib.hid (fun w => ref_decode (p ++ s) w (by omega))
  rw [runS_dec (p ++ s)] at HF
  simp only [mkB_bsL] at HF
  generalize decS (p ++ s) = dd at *
  obtain ⟨q, dl⟩ := dd
  have i1 : ¬ (4096 : Int) < (s.size : Int) := by omega
  have HE := Lib.hid (fun w => feed_end_ok p w hp hro)
  rw [hbk] at HE
  have HC := Lib.hid (fun w => feed_check p w (by omega))
  rw [if_pos hro] at HC
  have hE := isE p
  have hE2 : p.toList.isEmpty = false := by rw [hE]; simpa using h0
  have i2 : (1 : Int) ≤ (p.size : Int) := by omega
  clear hr hE hro hbk h0
  go_enter Try.func4, Try.ntmps4
  go_wp2_with fail
  refine (HBG.out _).mono ?_
  rintro e w1 ⟨rfl, hb⟩
  go_wp2_with fail
  refine (HF.out _).mono ?_
  rintro e w2 ⟨v2, rfl, ho2, hb2⟩
  have hb := below_then hb hb.size hb2
  go_wp2_with fail
  refine (HE.out _).mono ?_
  rintro e w3 ⟨v3, rfl, ho3, hb3⟩
  have ho2 := ho2.kept hb3
  have hb := below_then hb hb.size hb3
  obtain ⟨a2, n2, k2, rfl⟩ := ho2.form
  obtain ⟨a3, n3, k3, rfl⟩ := ho3.form
  obtain rfl : 1 = n3 := ho3.get.1
  go_wp2_with fail
  refine (HC.out _).mono ?_
  rintro e w4 ⟨rfl, hb4⟩
  have hb := below_then hb hb.size hb4
  have ho3 := ho3.kept hb4
  obtain ⟨bb, oo, rfl, hc1⟩ := ho3.get.2.1.at (k := 0) (by simp)
  have e1 := hc1 0 (by simp)
  rw [show ix [(65533 : Int)] 0 = 65533 from rfl, Nat.add_zero] at e1
  clear hc1
  have ho2 := ho2.kept hb4
  have HO2 := Lib.hid ho2
  clear ho2
  go_wp2_with fail
  refine (HD.out _).mono ?_
  rintro e w5 ⟨v5, rfl, ho5, hb5⟩
  have hb := below_then hb hb.size hb5
  obtain ⟨a5, n5, k5, rfl⟩ := ho5.form
  have ho6 := HO2.out.kept hb5
  have HG := Lib.hid (show _ ∧ _ from ⟨ho6.get, ho5.get⟩)
  have hnn : n2 ≤ 9223372036854775807 := by
    rcases ho6.2 with ⟨h1, h2⟩ | ⟨g2, cap2, cur2, h1, _, _, _, hm, _⟩
    · simp only [Value.slice.injEq] at h1; omega
    · simp only [Value.slice.injEq] at h1; unfold maxLen at hm; omega
  clear ho5 ho6
  go_wp2_with fail
  refine (slices_same a2 a5 n2 n5 k2 k5 dl _ HG.out.1.2.1 HG.out.2.2.1 HG.out.1.1 HG.out.2.1 hnn).mono ?_
  rintro e w6 ⟨rfl, q6, rfl⟩
  go_wp2
  go_ret
  exact ⟨rfl, below_drewN hb q6⟩

theorem feedSays_walk (p s : ByteArray) (w : World) (hp : p.size ≤ 1048576) (hs : s.size ≤ 1048576) :
    Calls Try.prog 4 #[.string p, .string s] w fun e w' => e = .returned (.bool true) ∧ Below w.heap.size w w' := by
  by_cases h0 : p.size = 0
  · by_cases hl : 4096 < s.size
    · exact feedSays_el p s w hp h0 hl hs
    · exact feedSays_eo p s w hp h0 (by omega)
  · cases hb : begV p with
    | false => exact feedSays_wrong p s w hp h0 hb
    | true =>
      by_cases hl : 4096 < s.size
      · exact feedSays_bl p s w hp h0 hb hl hs
      · exact feedSays_bo p s w hp h0 hb (by omega)

end Go.Proofs.Ytmipnikhgihcpaa

