/- Contracts of utf.Put and fairref.Put. -/
import Derived.Test.YtmipnikhgihcpaaUtf0
import Derived.Laws.BytesString
import Derived.Laws.Runes
import Derived.Laws.IdiomStrings
import Derived.Lib.RuneBytes
namespace Go.Proofs.Ytmipnikhgihcpaa
open Go.RowKit
set_option linter.unusedVariables false
set_option linter.unusedSimpArgs false

def putV (c : Int) : ByteArray := if scaB c = true then Utf8.encode c else ⟨#[]⟩
def putE (c : Int) : Int := if scaB c = true then 0 else 1
theorem utf_put (c : Int) (w : World) : Calls Try.prog 13 #[.int .i64 c] w fun e w' => e = .returned (.tuple #[.string (putV c), .int .i64 (putE c)]) ∧ w = w' := by
  obtain ⟨z, hz⟩ : ∃ z, scaB c = z := ⟨_, rfl⟩
  have HS := Lib.hid (utf_scalar c)
  have HV := Lib.hid (show putV c = if z = true then Utf8.encode c else ⟨#[]⟩ by rw [← hz]; rfl)
  have HE := Lib.hid (show putE c = if z = true then 0 else 1 by rw [← hz]; rfl)
  rw [hz] at HS
  rcases z with _ | _
  · clear hz
    go_enter Try.func13, Try.ntmps13
    go_wp2_with fail
    refine (HS.out _).mono ?_
    rintro e w' ⟨rfl, rfl⟩
    go_wp2
    go_ret2
    rw [HV.out, HE.out]
    exact ⟨rfl, rfl⟩
  · have hb : 0 ≤ c ∧ c ≤ 1114111 := by simp [scaB] at hz; omega
    obtain ⟨h0, h1⟩ := hb
    clear hz
    go_enter Try.func13, Try.ntmps13
    go_wp2_with fail
    refine (HS.out _).mono ?_
    rintro e w' ⟨rfl, rfl⟩
    go_wp2
    go_ret2
    rw [HV.out, HE.out]
    exact ⟨rfl, rfl⟩
theorem bytes_conv (w : World) (l : List Int) (hl : ∀ x ∈ l, 0 ≤ x ∧ x < 256) :
    (convert 146 9 (.slice (some ⟨w.heap.size, 0, none⟩) l.length l.length)).run Try.prog (w.alloc (.cells (l.map (Value.int .u8)).toArray 5)) = .ok (.string ⟨(l.map fun x => UInt8.ofNat x.toNat).toArray⟩) (w.alloc (.cells (l.map (Value.int .u8)).toArray 5)) := by
  have h := run_convert_bytes_back (P := Try.prog) (w.alloc (.cells (l.map (Value.int .u8)).toArray 5)) 146 9 5 ⟨w.heap.size, 0, none⟩ l.length (l.map fun x => UInt8.ofNat x.toNat) Try.underlying146 Try.underlying5 Try.underlying9 ?_
  · simpa using h
  · intro j hj
    have hj2 : j < l.length := by simpa using hj
    have hb := hl _ (List.getElem_mem hj2)
    have hc : (w.alloc (.cells (l.map (Value.int .u8)).toArray 5)).cell? ⟨w.heap.size, j, none⟩ = some (.int .u8 l[j]) := by
      rw [(Blk.new w (l.map (Value.int .u8)).toArray 5).cell j]; simp [hj2]
    have hadd : (⟨w.heap.size, 0, none⟩ : Addr).add j = ⟨w.heap.size, j, none⟩ := by unfold Addr.add; split <;> simp_all
    rw [hadd]
    simp only [List.getElem_map, UInt8.toNat_ofNat']
    rw [show ((l[j].toNat % 2 ^ 8 : Nat) : Int) = l[j] by omega]
    exact hc
theorem enc1 {c : Int} (h0 : 0 ≤ c) (h : c < 128) : Utf8.encode c = ⟨([c].map fun x => UInt8.ofNat x.toNat).toArray⟩ := by
  unfold Utf8.encode
  rw [show Utf8.valid c = true by simp [Utf8.valid]; omega]
  simp only [if_true]
  rw [if_pos (by omega)]; rfl
theorem enc2 {c : Int} (h0 : 128 ≤ c) (h : c < 2048) : Utf8.encode c = ⟨([192 + c / 64, 128 + c % 64].map fun x => UInt8.ofNat x.toNat).toArray⟩ := by
  unfold Utf8.encode
  rw [show Utf8.valid c = true by simp [Utf8.valid]; omega]
  simp only [if_true]
  rw [if_neg (by omega), if_pos (by omega)]
  simp only [List.map_cons, List.map_nil]
  rw [show (192 + c / 64).toNat = 0xC0 + c.toNat / 64 by omega, show (128 + c % 64).toNat = 0x80 + c.toNat % 64 by omega]
theorem enc3 {c : Int} (h0 : 2048 ≤ c) (h : c < 65536) (hv : scaB c = true) : Utf8.encode c = ⟨([224 + c / 4096, 128 + c / 64 % 64, 128 + c % 64].map fun x => UInt8.ofNat x.toNat).toArray⟩ := by
  simp [scaB] at hv
  unfold Utf8.encode
  rw [show Utf8.valid c = true by simp [Utf8.valid]; omega]
  simp only [if_true]
  rw [if_neg (by omega), if_neg (by omega), if_pos (by omega)]
  simp only [List.map_cons, List.map_nil]
  rw [show (224 + c / 4096).toNat = 0xE0 + c.toNat / 4096 by omega, show (128 + c / 64 % 64).toNat = 0x80 + c.toNat / 64 % 64 by omega, show (128 + c % 64).toNat = 0x80 + c.toNat % 64 by omega]
theorem enc4 {c : Int} (h0 : 65536 ≤ c) (h : c ≤ 1114111) : Utf8.encode c = ⟨([240 + c / 262144, 128 + c / 4096 % 64, 128 + c / 64 % 64, 128 + c % 64].map fun x => UInt8.ofNat x.toNat).toArray⟩ := by
  unfold Utf8.encode
  rw [show Utf8.valid c = true by simp [Utf8.valid]; omega]
  simp only [if_true]
  rw [if_neg (by omega), if_neg (by omega), if_neg (by omega)]
  simp only [List.map_cons, List.map_nil]
  rw [show (240 + c / 262144).toNat = 0xF0 + c.toNat / 262144 by omega, show (128 + c / 4096 % 64).toNat = 0x80 + c.toNat / 4096 % 64 by omega, show (128 + c / 64 % 64).toNat = 0x80 + c.toNat / 64 % 64 by omega, show (128 + c % 64).toNat = 0x80 + c.toNat % 64 by omega]
set_option maxRecDepth 100000 in
set_option maxHeartbeats 2000000 in
theorem ref_put (c : Int) (h : scaB c = true) (w : World) : Calls Try.prog 15 #[.int .i64 c] w fun e w' => e = .returned (.string (Utf8.encode c)) ∧ Below w.heap.size w w' := by
  have hb : (0 ≤ c ∧ c < 55296) ∨ (57343 < c ∧ c ≤ 1114111) := by simpa [scaB] using h
  have h0 : 0 ≤ c := by omega
  have h1 : c ≤ 1114111 := by omega
  clear hb
  by_cases hc : c < 128
  · have HE := Lib.hid (enc1 h0 hc)
    have hcv := bytes_conv w [c] (by intro x hx; simp at hx; omega)
    have hbel := below1 w (.cells ([c].map (Value.int .u8)).toArray 5)
    simp only [List.map_cons, List.map_nil, List.length_cons, List.length_nil] at hcv hbel
    clear h
    go_enter Try.func15, Try.ntmps15
    go_wp2
    go_ret
    rw [HE.out]
    exact ⟨rfl, hbel⟩
  · have hc' : 128 ≤ c := by omega
    clear hc
    by_cases hc : c < 2048
    · have HE := Lib.hid (enc2 hc' hc)
      have hcv := bytes_conv w [192 + c / 64, 128 + c % 64] (by intro x hx; simp at hx; omega)
      have hbel := below1 w (.cells ([192 + c / 64, 128 + c % 64].map (Value.int .u8)).toArray 5)
      simp only [List.map_cons, List.map_nil, List.length_cons, List.length_nil] at hcv hbel
      clear h
      go_enter Try.func15, Try.ntmps15
      go_wp2
      go_ret
      rw [HE.out]
      exact ⟨rfl, hbel⟩
    · have hc' : 2048 ≤ c := by omega
      clear hc
      by_cases hc : c < 65536
      · have HE := Lib.hid (enc3 hc' hc h)
        have hcv := bytes_conv w [224 + c / 4096, 128 + c / 64 % 64, 128 + c % 64] (by intro x hx; simp at hx; omega)
        have hbel := below1 w (.cells ([224 + c / 4096, 128 + c / 64 % 64, 128 + c % 64].map (Value.int .u8)).toArray 5)
        simp only [List.map_cons, List.map_nil, List.length_cons, List.length_nil] at hcv hbel
        clear h
        go_enter Try.func15, Try.ntmps15
        go_wp2
        go_ret
        rw [HE.out]
        exact ⟨rfl, hbel⟩
      · have hc' : 65536 ≤ c := by omega
        clear hc
        have HE := Lib.hid (enc4 hc' h1)
        have hcv := bytes_conv w [240 + c / 262144, 128 + c / 4096 % 64, 128 + c / 64 % 64, 128 + c % 64] (by intro x hx; simp at hx; omega)
        have hbel := below1 w (.cells ([240 + c / 262144, 128 + c / 4096 % 64, 128 + c / 64 % 64, 128 + c % 64].map (Value.int .u8)).toArray 5)
        simp only [List.map_cons, List.map_nil, List.length_cons, List.length_nil] at hcv hbel
        clear h
        go_enter Try.func15, Try.ntmps15
        go_wp2
        go_ret
        rw [HE.out]
        exact ⟨rfl, hbel⟩

end Go.Proofs.Ytmipnikhgihcpaa
