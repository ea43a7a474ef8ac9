/- What utf.Get answers: plain. -/
import Derived.Test.YtmipnikhgihcpaaUtf1
import Derived.Test.YtmipnikhgihcpaaKey1
import Derived.Lib.QuoteBits
namespace Go.Proofs.Ytmipnikhgihcpaa
open Go.RowKit
set_option linter.unusedVariables false
set_option linter.unusedSimpArgs false

theorem or64 {x y : Int} (h0 : 0 ≤ x) (h1 : x < 1099511627776) (h2 : 0 ≤ y) (h3 : y < 64) : bits .or .i64 (x * 64) y = x * 64 + y := by
  obtain ⟨a, rfl⟩ := Int.eq_ofNat_of_zero_le h0
  obtain ⟨b, rfl⟩ := Int.eq_ofNat_of_zero_le h2
  have e : ((a : Int) * 64) = ((a * 64 : Nat) : Int) := by omega
  rw [e]
  show IntKind.i64.wrap ((BitVec.ofInt 64 ((a * 64 : Nat) : Int) ||| BitVec.ofInt 64 (b : Int)).toNat : Int) = _
  rw [BitVec.toNat_or, ofInt_u64 (a * 64) (by omega), ofInt_u64 b (by omega)]
  have := Nat.two_pow_add_eq_or_of_lt (i := 6) (b := b) (by omega) a
  rw [show a * 64 = 2 ^ 6 * a by omega, ← this, Lib.wrap_i64_small _ (by omega)]
  omega

/-- the character, how many bytes it has, the error -/
structure G where
  c : Int
  n : Int
  e : Int
def conB (x : Int) : Bool := decide (128 ≤ x ∧ x < 192)
def gFin (k c : Int) : G := if c < lstV k ∨ scaB c = false then ⟨0, 0, 4⟩ else ⟨c, k, 0⟩
def gV (len : Nat) (b0 b1 b2 b3 : Int) : G :=
  if len = 0 then ⟨0, 0, 3⟩
  else if b0 < 128 then ⟨b0, 1, 0⟩
  else if b0 < 192 ∨ 248 ≤ b0 then ⟨0, 0, 4⟩
  else if len = 1 then ⟨0, 0, 3⟩ else if conB b1 = false then ⟨0, 0, 4⟩
  else if b0 < 224 then gFin 2 (b0 % 32 * 64 + b1 % 64)
  else if len = 2 then ⟨0, 0, 3⟩ else if conB b2 = false then ⟨0, 0, 4⟩
  else if b0 < 240 then gFin 3 ((b0 % 16 * 64 + b1 % 64) * 64 + b2 % 64)
  else if len = 3 then ⟨0, 0, 3⟩ else if conB b3 = false then ⟨0, 0, 4⟩
  else gFin 4 (((b0 % 8 * 64 + b1 % 64) * 64 + b2 % 64) * 64 + b3 % 64)
def gS (s : ByteArray) : G := gV s.size (bt s 0) (bt s 1) (bt s 2) (bt s 3)
def GPost (g : G) (w : World) (e : Ending) (w' : World) : Prop := e = .returned (.tuple #[.int .i64 g.c, .int .i64 g.n, .int .i64 g.e]) ∧ Below w.heap.size w w'

/-- the first byte's word: how many bytes, which bits -/
def Head (b0 : Int) (N : Nat) (c0 : Int) : Prop := (192 ≤ b0 ∧ b0 < 224 ∧ N = 2 ∧ c0 = b0 % 32) ∨ (224 ≤ b0 ∧ b0 < 240 ∧ N = 3 ∧ c0 = b0 % 16) ∨ (240 ≤ b0 ∧ b0 < 248 ∧ N = 4 ∧ c0 = b0 % 8)
def accG (c0 : Int) (s : ByteArray) : Nat → Int
  | 0 => c0
  | k + 1 => accG c0 s k * 64 + bt s (k + 1) % 64
theorem accG_bd {c0 : Int} {s : ByteArray} (h0 : 0 ≤ c0) (h1 : c0 < 32) {k : Nat} (hk : k ≤ 3) : 0 ≤ accG c0 s k ∧ accG c0 s k < 8388608 := by
  have r1 := bt_range s 1; have r2 := bt_range s 2; have r3 := bt_range s 3
  obtain rfl | rfl | rfl | rfl : k = 0 ∨ k = 1 ∨ k = 2 ∨ k = 3 := by omega
  all_goals simp only [accG]; omega
theorem Head.bd {b0 : Int} {N : Nat} {c0 : Int} (h : Head b0 N c0) : 2 ≤ N ∧ N ≤ 4 ∧ 0 ≤ c0 ∧ c0 < 32 := by
  unfold Head at h; omega
theorem gS_short {s : ByteArray} {N i : Nat} {c0 : Int} (h : Head (bt s 0) N c0) (h1 : 1 ≤ i) (h2 : i < N) (hs : s.size = i) (hc : ∀ j, 1 ≤ j → j < i → conB (bt s j) = true) : gS s = ⟨0, 0, 3⟩ := by
  unfold gS gV
  have hb := h
  unfold Head at hb
  rw [if_neg (by omega), if_neg (by omega), if_neg (by omega)]
  obtain rfl | rfl | rfl : i = 1 ∨ i = 2 ∨ i = 3 := by have := h.bd; omega
  · rw [if_pos hs]
  · rw [if_neg (by omega), if_neg (by rw [hc 1 (by omega) (by omega)]; simp), if_neg (by omega), if_pos hs]
  · rw [if_neg (by omega), if_neg (by rw [hc 1 (by omega) (by omega)]; simp), if_neg (by omega), if_neg (by omega), if_neg (by rw [hc 2 (by omega) (by omega)]; simp), if_neg (by omega), if_pos hs]
theorem gS_form {s : ByteArray} {N i : Nat} {c0 : Int} (h : Head (bt s 0) N c0) (h1 : 1 ≤ i) (h2 : i < N) (hs : i < s.size) (hc : ∀ j, 1 ≤ j → j < i → conB (bt s j) = true) (hf : conB (bt s i) = false) : gS s = ⟨0, 0, 4⟩ := by
  unfold gS gV
  have hb := h
  unfold Head at hb
  rw [if_neg (by omega), if_neg (by omega), if_neg (by omega)]
  obtain rfl | rfl | rfl : i = 1 ∨ i = 2 ∨ i = 3 := by have := h.bd; omega
  · rw [if_neg (by omega), if_pos hf]
  · rw [if_neg (by omega), if_neg (by rw [hc 1 (by omega) (by omega)]; simp), if_neg (by omega), if_neg (by omega), if_pos hf]
  · rw [if_neg (by omega), if_neg (by rw [hc 1 (by omega) (by omega)]; simp), if_neg (by omega), if_neg (by omega), if_neg (by rw [hc 2 (by omega) (by omega)]; simp), if_neg (by omega), if_neg (by omega), if_pos hf]
theorem gS_fin {s : ByteArray} {N : Nat} {c0 : Int} (h : Head (bt s 0) N c0) (hs : N ≤ s.size) (hc : ∀ j, 1 ≤ j → j < N → conB (bt s j) = true) : gS s = gFin N (accG c0 s (N - 1)) := by
  unfold gS gV
  have hb := h
  unfold Head at hb
  rw [if_neg (by omega), if_neg (by omega), if_neg (by omega), if_neg (by omega), if_neg (by rw [hc 1 (by omega) (by omega)]; simp)]
  rcases hb with ⟨a, b, rfl, rfl⟩ | ⟨a, b, rfl, rfl⟩ | ⟨a, b, rfl, rfl⟩
  · rw [if_pos b]; rfl
  · rw [if_neg (by omega), if_neg (by omega), if_neg (by rw [hc 2 (by omega) (by omega)]; simp), if_pos b]; rfl
  · rw [if_neg (by omega), if_neg (by omega), if_neg (by rw [hc 2 (by omega) (by omega)]; simp), if_neg (by omega), if_neg (by omega), if_neg (by rw [hc 3 (by omega) (by omega)]; simp)]; rfl
theorem gS_low {s : ByteArray} (hs : 0 < s.size) (h : bt s 0 < 128) : gS s = ⟨bt s 0, 1, 0⟩ := by
  unfold gS gV
  rw [if_neg (by omega), if_pos h]
theorem gS_bad {s : ByteArray} (hs : 0 < s.size) (h : (128 ≤ bt s 0 ∧ bt s 0 < 192) ∨ 248 ≤ bt s 0) : gS s = ⟨0, 0, 4⟩ := by
  unfold gS gV
  rw [if_neg (by omega), if_neg (by omega), if_pos (by omega)]
theorem gS_nil {s : ByteArray} (hs : s.size = 0) : gS s = ⟨0, 0, 3⟩ := by
  unfold gS gV
  rw [if_pos hs]
theorem isE (s : ByteArray) : s.toList.isEmpty = decide (s.size = 0) := by
  rw [ByteArray.toList_eq]
  have h : s.data.toList.length = s.size := by rw [Array.length_toList]; rfl
  rw [← h]
  cases s.data.toList <;> simp
theorem bt_eq {s : ByteArray} {j : Nat} (h : j < s.size) : ((s[j]'h).toNat : Int) = bt s j := by
  unfold bt
  have h2 : j < s.data.toList.length := by simpa using h
  simp [List.getD, h]
  rfl

end Go.Proofs.Ytmipnikhgihcpaa
