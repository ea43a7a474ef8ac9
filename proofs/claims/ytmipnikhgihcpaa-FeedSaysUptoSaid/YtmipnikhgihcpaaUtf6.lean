/- Contract of utf.Count. -/
import Derived.Test.YtmipnikhgihcpaaUtf5
import Derived.Laws.RangeAny
namespace Go.Proofs.Ytmipnikhgihcpaa
open Go.RowKit
set_option linter.unusedVariables false
set_option linter.unusedSimpArgs false

theorem get_bt {s : ByteArray} {j : Nat} (h : j < s.size) : ((s.get! j).toNat : Int) = bt s j := by
  rw [← bt_eq h]
  simp [ByteArray.get!, getElem!_pos, h]
  rfl
theorem cut_bt {s : ByteArray} {k j : Nat} (h : k + j < s.size) : bt (cutS s k) j = ((s.get! (k + j)).toNat : Int) := by
  have h2 : j < (s.extract k s.size).size := by simp; omega
  show bt (s.extract k s.size) j = _
  rw [get_bt h, ← bt_eq h, ← bt_eq h2]
  congr 2
  simp [ByteArray.getElem_extract]
theorem fin_ok {k c : Int} (h : (gFin k c).e = 0) : ¬ c < lstV k ∧ scaB c = true := by
  unfold gFin at h
  split at h
  · simp at h
  · rename_i hh
    simp only [not_or] at hh
    exact ⟨hh.1, by simpa using hh.2⟩
theorem valid_sca {c : Nat} (h : scaB (c : Int) = true) : Utf8.valid (c : Int) = true := by
  simp [scaB] at h
  simp [Utf8.valid]
  omega
set_option maxHeartbeats 1000000 in
theorem dec_n {s : ByteArray} {k : Nat} (hk : k < s.size) (he : (gA s k).e = 0) : (Utf8.decode s k).2 = (gA s k).n.toNat := by
  have hb := fun j => (s.get! (k + j)).toNat_lt
  have e0 := cut_bt (s := s) (k := k) (j := 0) (by omega)
  have hsz := cut_size s k
  unfold gA gS gV at he ⊢
  rw [hsz] at he ⊢
  rw [if_neg (show ¬ s.size - k = 0 by omega)] at he ⊢
  have hb0 := hb 0; have hb1 := hb 1; have hb2 := hb 2; have hb3 := hb 3
  simp only [Utf8.decode]
  by_cases h1 : bt (cutS s k) 0 < 128
  · rw [if_pos h1, if_pos (by omega)]; rfl
  rw [if_neg h1] at he ⊢
  rw [if_neg (show ¬ (s.get! (k + 0)).toNat < 0x80 by omega)]
  by_cases h2 : bt (cutS s k) 0 < 192 ∨ 248 ≤ bt (cutS s k) 0
  · rw [if_pos h2] at he; simp at he
  rw [if_neg h2] at he ⊢
  by_cases h3 : s.size - k = 1
  · rw [if_pos h3] at he; simp at he
  rw [if_neg h3] at he ⊢
  have e1 := cut_bt (s := s) (k := k) (j := 1) (by omega)
  by_cases h4 : conB (bt (cutS s k) 1) = false
  · rw [if_pos h4] at he; simp at he
  rw [if_neg h4] at he ⊢
  have c1 : 128 ≤ bt (cutS s k) 1 ∧ bt (cutS s k) 1 < 192 := by simpa [conB] using h4
  have i1 : decide (k + 1 < s.size) = true := by simp; omega
  have g1 : ((s.get! (k + 1)).toNat / 64 == 2) = true := by rw [beq_iff_eq]; omega
  by_cases h5 : bt (cutS s k) 0 < 224
  · rw [if_pos h5] at he ⊢
    obtain ⟨f1, f2⟩ := fin_ok he
    rw [gFin_n he]
    rw [show lstV 2 = 128 from rfl] at f1
    have g0 : ((s.get! (k + 0)).toNat / 32 == 6) = true := by rw [beq_iff_eq]; omega
    rw [g0, i1, g1]
    simp only [Bool.and_self, if_true]
    rw [if_pos (by omega)]
    rfl
  rw [if_neg h5] at he ⊢
  have g0 : ((s.get! (k + 0)).toNat / 32 == 6) = false := by rw [beq_eq_false_iff_ne]; omega
  by_cases h6 : s.size - k = 2
  · rw [if_pos h6] at he; simp at he
  rw [if_neg h6] at he ⊢
  have e2 := cut_bt (s := s) (k := k) (j := 2) (by omega)
  by_cases h7 : conB (bt (cutS s k) 2) = false
  · rw [if_pos h7] at he; simp at he
  rw [if_neg h7] at he ⊢
  have c2 : 128 ≤ bt (cutS s k) 2 ∧ bt (cutS s k) 2 < 192 := by simpa [conB] using h7
  have i2 : decide (k + 2 < s.size) = true := by simp; omega
  have g2 : ((s.get! (k + 2)).toNat / 64 == 2) = true := by rw [beq_iff_eq]; omega
  by_cases h8 : bt (cutS s k) 0 < 240
  · rw [if_pos h8] at he ⊢
    obtain ⟨f1, f2⟩ := fin_ok he
    rw [gFin_n he]
    rw [show lstV 3 = 2048 from rfl] at f1
    have k0 : ((s.get! (k + 0)).toNat / 16 == 14) = true := by rw [beq_iff_eq]; omega
    have hv : (bt (cutS s k) 0 % 16 * 64 + bt (cutS s k) 1 % 64) * 64 + bt (cutS s k) 2 % 64 = (((s.get! (k + 0)).toNat % 16 * 4096 + (s.get! (k + 1)).toNat % 64 * 64 + (s.get! (k + 2)).toNat % 64 : Nat) : Int) := by omega
    rw [hv] at f1 f2
    have hval := valid_sca f2
    rw [g0, i1, g1, k0, i2, g2]
    simp only [Bool.and_self, Bool.false_and, Bool.false_eq_true, if_false, if_true]
    rw [if_pos (by simp only [Bool.and_eq_true, decide_eq_true_eq]; exact ⟨by omega, hval⟩)]
    rfl
  rw [if_neg h8] at he ⊢
  have k0 : ((s.get! (k + 0)).toNat / 16 == 14) = false := by rw [beq_eq_false_iff_ne]; omega
  by_cases h9 : s.size - k = 3
  · rw [if_pos h9] at he; simp at he
  rw [if_neg h9] at he ⊢
  have e3 := cut_bt (s := s) (k := k) (j := 3) (by omega)
  by_cases h10 : conB (bt (cutS s k) 3) = false
  · rw [if_pos h10] at he; simp at he
  rw [if_neg h10] at he ⊢
  have c3 : 128 ≤ bt (cutS s k) 3 ∧ bt (cutS s k) 3 < 192 := by simpa [conB] using h10
  have i3 : decide (k + 3 < s.size) = true := by simp; omega
  have g3 : ((s.get! (k + 3)).toNat / 64 == 2) = true := by rw [beq_iff_eq]; omega
  obtain ⟨f1, f2⟩ := fin_ok he
  rw [gFin_n he]
  rw [show lstV 4 = 65536 from rfl] at f1
  have l0 : ((s.get! (k + 0)).toNat / 8 == 30) = true := by rw [beq_iff_eq]; omega
  have hv : ((bt (cutS s k) 0 % 8 * 64 + bt (cutS s k) 1 % 64) * 64 + bt (cutS s k) 2 % 64) * 64 + bt (cutS s k) 3 % 64 = (((s.get! (k + 0)).toNat % 8 * 262144 + (s.get! (k + 1)).toNat % 64 * 4096 + (s.get! (k + 2)).toNat % 64 * 64 + (s.get! (k + 3)).toNat % 64 : Nat) : Int) := by omega
  rw [hv] at f1 f2
  have hval := valid_sca f2
  rw [g0, i1, g1, k0, i2, g2, l0, i3, g3]
  simp only [Bool.and_self, Bool.false_and, Bool.false_eq_true, if_false, if_true]
  rw [if_pos (by simp only [Bool.and_eq_true, decide_eq_true_eq]; exact ⟨by omega, hval⟩)]
  rfl

def cntS (s : ByteArray) : Nat := if (allS s).e = 0 then (allS s).l.length else 0
def CntPost (s : ByteArray) (w : World) (e : Ending) (w' : World) : Prop := e = .returned (.tuple #[.int .i64 (cntS s : Int), .int .i64 (allS s).e]) ∧ Below w.heap.size w w'
set_option maxRecDepth 100000 in
set_option maxHeartbeats 2000000 in
theorem utf_count (s : ByteArray) (w : World) (hs : s.size ≤ 1048576) : Calls Try.prog 20 #[.string s] w (CntPost s w) := by
  have HC := Lib.hid (show cntS s = if (allS s).e = 0 then (allS s).l.length else 0 from rfl)
  have HU := Lib.hid (utf_all s w hs)
  obtain ⟨ev, hev⟩ : ∃ e, (allS s).e = e := ⟨_, rfl⟩
  rw [hev] at HC
  by_cases h0 : ev = 0
  · subst h0
    go_enter Try.func20, Try.ntmps20
    go_wp2_with fail
    refine HU.out.mono ?_
    rintro e w1 ⟨v, rfl, -, hb⟩
    rw [hev]
    have HEV := Lib.hid hev
    clear hev
    go_wp2
    go_loopw [7] (fun nv wr => ∃ (k f : Nat) (out : List Int), nv = .int .i64 (out.length : Int) ∧ k ≤ s.size ∧ out.length ≤ k ∧ s.size ≤ k + f ∧ allF s f k out = allS s ∧ wr = w1.iter s k) (fun _ wr => s.size - wr.iterPos w1.heap.size)
    case atStart => exact ⟨0, s.size, [], rfl, by omega, by simp, by omega, rfl, rfl⟩
    case round =>
      obtain ⟨k, f, out, rfl, hk, hlo, hf, hall, rfl⟩ := hrel
      by_cases hlt : k < s.size
      · have he : (gA s k).e = 0 := by
          by_cases h : (gA s k).e = 0
          · exact h
          · have h1 := allF_err (out := out) hlt h hf
            rw [hall] at h1
            have h2 := HEV.out
            rw [h1] at h2
            exact absurd h2 h
        obtain ⟨n1, n2, n3⟩ := gS_n (s := cutS s k) he
        rw [cut_size] at n2
        obtain ⟨f', rfl, hst, hf'⟩ := allF_step (out := out) hlt he hf
        rw [hst] at hall
        have hnx := fun ty => run_next_any (P := Try.prog) w1 s k ty hlt
        rw [dec_n hlt he] at hnx
        have n1' : 1 ≤ (gA s k).n := n1
        have n2' : (gA s k).n ≤ ((s.size - k : Nat) : Int) := n2
        have HF := Lib.hid hf'
        have HALL := Lib.hid hall
        clear n1 n2 n3 hst hall hf' hf he
        generalize (Utf8.decode s k).1 = dc at *
        generalize gA s k = g at *
        obtain ⟨gc, gn, ge⟩ := g
        simp only at n1' n2' hnx
        obtain ⟨m, rfl⟩ := Int.eq_ofNat_of_zero_le (show 0 ≤ gn by omega)
        simp only [Int.toNat_natCast] at hnx
        go_wp2
        go_roundw
        case rel =>
          refine ⟨k + m, f', out ++ [gc], by simp, by omega, by simp; omega, ?_, ?_, rfl⟩
          · have := HF.out; simp only [Int.toNat_natCast] at this; exact this
          · have := HALL.out; simp only [Int.toNat_natCast] at this; exact this
        case measure => simp; omega
      · have hnx := fun ty => run_next_end (P := Try.prog) w1 s k ty hlt
        have HR := Lib.hid (allF_end (f := f) (out := out) hlt)
        rw [hall] at HR
        go_wp2
        go_ret2
        refine ⟨?_, hb.alloc hb.size _⟩
        rw [HC.out, HEV.out, HR.out]
        rfl
  · go_enter Try.func20, Try.ntmps20
    have z1 : (ev != 0) = true := by simpa using h0
    go_wp2_with fail
    refine HU.out.mono ?_
    rintro e w1 ⟨v, rfl, -, hb⟩
    rw [hev]
    have HEV := Lib.hid hev
    have H0 := Lib.hid h0
    clear hev h0
    go_wp2
    go_ret2
    refine ⟨?_, hb⟩
    rw [HC.out, HEV.out, if_neg H0.out]
    rfl

end Go.Proofs.Ytmipnikhgihcpaa
