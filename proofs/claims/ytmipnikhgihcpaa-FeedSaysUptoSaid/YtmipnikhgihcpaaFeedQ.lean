/- FeedSays: plain: beginnings; the machine's steps. -/
import Derived.Test.YtmipnikhgihcpaaFeedP
namespace Go.Proofs.Ytmipnikhgihcpaa
open Go.RowKit
set_option linter.unusedVariables false
set_option linter.unusedSimpArgs false

/-- a beginning of a character, and not all of it -/
def Beg (l : List Int) : Prop :=
  (l.length = 1 ∧ 194 ≤ ix l 0 ∧ ix l 0 ≤ 244) ∨ (l.length = 2 ∧ 224 ≤ ix l 0 ∧ ix l 0 ≤ 244 ∧ secB (ix l 0) (ix l 1)) ∨
  (l.length = 3 ∧ 240 ≤ ix l 0 ∧ ix l 0 ≤ 244 ∧ secB (ix l 0) (ix l 1) ∧ 128 ≤ ix l 2 ∧ ix l 2 < 192)
theorem Byt.at {l : List Int} (h : Byt l) (j : Nat) : 0 ≤ ix l j ∧ ix l j < 256 := by
  by_cases hj : j < l.length
  · exact h _ (ix_mem hj)
  · have : ix l j = 0 := by unfold ix; simp [List.getD, Nat.le_of_not_lt hj]
    omega
theorem put_bad {o : List Int} {b : Int} (h : whV b = 0) : MS.take ⟨[], o⟩ b = ⟨[], o ++ [65533]⟩ := by
  unfold MS.take MS.put
  simp [h]
theorem put_one {o : List Int} {b : Int} (h : whV b = 1) : MS.take ⟨[], o⟩ b = ⟨[], o ++ [(gS (mkB [b])).c]⟩ := by
  unfold MS.take MS.put
  have : ix [b] 0 = b := rfl
  simp [h, this]
theorem put_more {o : List Int} {b : Int} (h0 : whV b ≠ 0) (h1 : whV b ≠ 1) : MS.take ⟨[], o⟩ b = ⟨[b], o⟩ := by
  unfold MS.take MS.put
  have : ix [b] 0 = b := rfl
  simp [h0, this]
  intro h; exact absurd h.symm h1
theorem put_fit {A o : List Int} {b : Int} (hA : A ≠ []) (hf : fitB A b = true) : MS.take ⟨A, o⟩ b = if ((A.length + 1 : Nat) : Int) = whV (ix A 0) then ⟨[], o ++ [(gS (mkB (A ++ [b]))).c]⟩ else ⟨A ++ [b], o⟩ := by
  unfold MS.take MS.put
  have hl : 0 < A.length := List.length_pos_iff.2 hA
  have h0 : ix (A ++ [b]) 0 = ix A 0 := ix_append_left hl
  simp [hf, hA, h0]
theorem put_nofit {A o : List Int} {b : Int} (hA : A ≠ []) (hf : fitB A b = false) : MS.take ⟨A, o⟩ b = MS.take ⟨[], o ++ [65533]⟩ b := by
  have h1 : MS.take ⟨A, o⟩ b = (MS.brk ⟨A, o⟩).put b := by unfold MS.take; rw [if_pos ⟨hA, hf⟩]
  have h2 : MS.take ⟨[], o ++ [65533]⟩ b = MS.put ⟨[], o ++ [65533]⟩ b := by unfold MS.take; rw [if_neg (by simp)]
  rw [h1, h2, brk_cons hA]
theorem bt_mkB {A : List Int} (h : Byt A) (j : Nat) : bt (mkB A) j = ix A j := by
  unfold bt mkB ix
  by_cases hj : j < A.length
  · have hb := h _ (List.getElem_mem hj)
    simp [List.getD, hj]
    omega
  · simp [List.getD, Nat.le_of_not_lt hj]
theorem size_mkB (A : List Int) : (mkB A).size = A.length := by
  show (A.map fun x => UInt8.ofNat x.toNat).toArray.size = _
  simp
theorem gS_mkB {A : List Int} (h : Byt A) : gS (mkB A) = gL A := by
  unfold gS gL
  rw [size_mkB, bt_mkB h, bt_mkB h, bt_mkB h, bt_mkB h]
theorem ix_bsL (s : ByteArray) (j : Nat) : ix (bsL s) j = bt s j := by
  by_cases h : j < s.size
  · exact bsL_ix h
  · have h1 : ix (bsL s) j = 0 := by unfold ix; simp [List.getD, bsL_len, Nat.le_of_not_lt h]
    have h2 : bt s j = 0 := by
      unfold bt
      have : s.data.toList.length ≤ j := by rw [Array.length_toList]; exact Nat.le_of_not_lt h
      simp [List.getD, List.getElem?_eq_none this]
    rw [h1, h2]
theorem gS_bsL (s : ByteArray) : gS s = gL (bsL s) := by
  unfold gS gL
  rw [bsL_len, ix_bsL, ix_bsL, ix_bsL, ix_bsL]
theorem byt_bsL (s : ByteArray) : Byt (bsL s) := by
  intro x hx
  obtain ⟨j, -, rfl⟩ := List.mem_map.1 hx
  have := bt_range s j
  omega
theorem mkB_bsL (s : ByteArray) : mkB (bsL s) = s := by
  obtain ⟨⟨l⟩⟩ := s
  unfold mkB
  congr 2
  apply List.ext_getElem
  · simp [bsL]; rfl
  · intro i h1 h2
    have h3 : i < (⟨⟨l⟩⟩ : ByteArray).size := h2
    simp only [List.getElem_map]
    have h4 : (bsL ⟨⟨l⟩⟩)[i]'(by rw [bsL_len]; exact h3) = bt ⟨⟨l⟩⟩ i := by simp [bsL]
    rw [h4, ← bt_eq h3]
    show UInt8.ofNat (Int.toNat ((l[i].toNat : Nat) : Int)) = l[i]
    simp
theorem bsL_cut (s : ByteArray) (k : Nat) : bsL (cutS s k) = (bsL s).drop k := by
  apply List.ext_getElem
  · rw [List.length_drop, bsL_len, bsL_len, cut_size]
  · intro i h1 h2
    rw [bsL_len, cut_size] at h1
    have e1 : (bsL (cutS s k))[i]'(by rw [bsL_len, cut_size]; exact h1) = bt (cutS s k) i := by simp [bsL]
    have e2 : ((bsL s).drop k)[i]'h2 = bt s (k + i) := by simp [bsL]
    rw [e1, e2, cut_bt (by omega), get_bt (by omega)]
theorem bsL_to (s : ByteArray) {k : Nat} (hk : k ≤ s.size) : bsL (s.extract 0 k) = (bsL s).take k := by
  have hsz : (s.extract 0 k).size = k := by simp; omega
  apply List.ext_getElem
  · rw [List.length_take, bsL_len, bsL_len, hsz]; omega
  · intro i h1 h2
    rw [bsL_len, hsz] at h1
    have e1 : (bsL (s.extract 0 k))[i]'(by rw [bsL_len, hsz]; exact h1) = bt (s.extract 0 k) i := by simp [bsL]
    have e2 : ((bsL s).take k)[i]'h2 = bt s i := by simp [bsL]
    rw [e1, e2, ← bt_eq (show i < (s.extract 0 k).size by omega), ← bt_eq (show i < s.size by omega)]
    congr 2
    simp [ByteArray.getElem_extract]
theorem bsL_app (s t : ByteArray) : bsL (s ++ t) = bsL s ++ bsL t := by
  have hsz : (s ++ t).size = s.size + t.size := ByteArray.size_append
  apply List.ext_getElem
  · rw [List.length_append, bsL_len, bsL_len, bsL_len, hsz]
  · intro i h1 h2
    rw [bsL_len, hsz] at h1
    have e1 : (bsL (s ++ t))[i]'(by rw [bsL_len, hsz]; exact h1) = bt (s ++ t) i := by simp [bsL]
    rw [e1, ← bt_eq (by omega)]
    by_cases hi : i < s.size
    · rw [List.getElem_append_left (by rw [bsL_len]; exact hi)]
      have e2 : (bsL s)[i]'(by rw [bsL_len]; exact hi) = bt s i := by simp [bsL]
      rw [e2, ← bt_eq hi]
      congr 2
      exact ByteArray.getElem_append_left hi
    · rw [List.getElem_append_right (by rw [bsL_len]; omega)]
      have e2 : (bsL t)[i - (bsL s).length]'(by rw [bsL_len, bsL_len]; omega) = bt t (i - s.size) := by simp [bsL]
      rw [e2, ← bt_eq (by omega)]
      congr 2
      exact ByteArray.getElem_append_right (by omega)

end Go.Proofs.Ytmipnikhgihcpaa
