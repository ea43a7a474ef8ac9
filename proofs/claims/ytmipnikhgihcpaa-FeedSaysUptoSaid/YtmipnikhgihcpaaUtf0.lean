/- Contracts of utf.scalar, lead, least, Get; fairref.Char, ones. -/
import Derived.Test.YtmipnikhgihcpaaSlib
import Derived.Lib.ConvBytes
import Derived.Lib.Bits
import Derived.Deep.CutBlock
namespace Go.Proofs.Ytmipnikhgihcpaa
open Go.RowKit
set_option linter.unusedVariables false
set_option linter.unusedSimpArgs false

def scaB (c : Int) : Bool := decide ((0 ≤ c ∧ c < 55296) ∨ (57343 < c ∧ c ≤ 1114111))
theorem utf_scalar (c : Int) (w : World) : Calls Try.prog 90 #[.int .i64 c] w fun e w' => e = .returned (.bool (scaB c)) ∧ w = w' := by
  go_enter Try.func90, Try.ntmps90
  go_wp2
  all_goals
    go_ret
    refine ⟨ret1_bool ?_, rfl⟩
    rw [Bool.eq_iff_iff]
    simp [scaB]
    try omega
theorem ref_char (c : Int) (w : World) : Calls Try.prog 14 #[.int .i64 c] w fun e w' => e = .returned (.bool (scaB c)) ∧ w = w' := by
  go_enter Try.func14, Try.ntmps14
  go_wp2
  all_goals
    go_ret
    refine ⟨ret1_bool ?_, rfl⟩
    rw [Bool.eq_iff_iff]
    simp [scaB]
    try omega
def lstV (n : Int) : Int := if n = 2 then 128 else if n = 3 then 2048 else if n = 4 then 65536 else 0
theorem utf_least (n : Int) (w : World) : Calls Try.prog 92 #[.int .i64 n] w fun e w' => e = .returned (.int .i64 (lstV n)) ∧ w = w' := by
  go_enter Try.func92, Try.ntmps92
  go_wp2
  all_goals
    go_ret
    refine ⟨ret1_int ?_, rfl⟩
    simp_all [lstV]
def ldN (b : Int) : Int := if b < 128 then 1 else if b < 192 then 0 else if b < 224 then 2 else if b < 240 then 3 else if b < 248 then 4 else 0
def ldC (b : Int) : Int := if b < 128 then b else if b < 192 then 0 else if b < 224 then b % 32 else if b < 240 then b % 16 else if b < 248 then b % 8 else 0
theorem utf_lead (b : Int) (h0 : 0 ≤ b) (h1 : b ≤ 255) (w : World) : Calls Try.prog 91 #[.int .u8 b] w fun e w' => e = .returned (.tuple #[.int .i64 (ldN b), .int .i64 (ldC b)]) ∧ w = w' := by
  have HN := Lib.hid (show ldN b = _ from rfl); have HC := Lib.hid (show ldC b = _ from rfl)
  go_enter Try.func91, Try.ntmps91
  go_wp2
  all_goals
    go_ret2
    refine ⟨congrArg Ending.returned (congrArg Value.tuple (show #[Value.int .i64 _, Value.int .i64 _] = _ from ?_)), rfl⟩
    unfold ldN ldC
    repeat' split
    all_goals first | rfl | (exfalso; omega)
theorem and1_all : ∀ n : Fin 256, bits BinOp.and IntKind.u8 (n.val : Int) 1 = (n.val : Int) % 2 := by decide +kernel
theorem and1 (b : Int) (h0 : 0 ≤ b) (h1 : b < 256) : bits BinOp.and IntKind.u8 b 1 = b % 2 := by
  have := and1_all ⟨b.toNat, by omega⟩
  simpa [Int.toNat_of_nonneg h0] using this
def onV (b : Int) : Int := if b < 128 then 0 else if b < 192 then 1 else if b < 224 then 2 else if b < 240 then 3 else if b < 248 then 4 else if b < 252 then 5 else if b < 254 then 6 else if b < 255 then 7 else 8
set_option maxHeartbeats 2000000 in
theorem ref_ones (b : Int) (h0 : 0 ≤ b) (h1 : b ≤ 255) (w : World) : Calls Try.prog 93 #[.int .u8 b] w fun e w' => e = .returned (.int .i64 (onV b)) ∧ w = w' := by
  have HO := Lib.hid (show onV b = if b < 128 then 0 else if b < 192 then 1 else if b < 224 then 2 else if b < 240 then 3 else if b < 248 then 4 else if b < 252 then 5 else if b < 254 then 6 else if b < 255 then 7 else 8 from rfl)
  go_enter Try.func93, Try.ntmps93
  go_upto_region 2 with fail
  go_loopw [3] (fun nv wr => ∃ n : Int, nv = .int .i64 n ∧ w = wr ∧ ((n = 0 ∧ 0 ≤ b) ∨ (n = 1 ∧ 128 ≤ b) ∨ (n = 2 ∧ 192 ≤ b) ∨ (n = 3 ∧ 224 ≤ b) ∨ (n = 4 ∧ 240 ≤ b) ∨ (n = 5 ∧ 248 ≤ b) ∨ (n = 6 ∧ 252 ≤ b) ∨ (n = 7 ∧ 254 ≤ b) ∨ (n = 8 ∧ 255 ≤ b))) (fun nv _ => 8 - (intOf nv).toNat)
  case atStart => exact ⟨0, rfl, rfl, .inl ⟨rfl, h0⟩⟩
  case round =>
    obtain ⟨n, rfl, rfl, hn⟩ := hrel
    rcases hn with ⟨rfl, hb⟩ | ⟨rfl, hb⟩ | ⟨rfl, hb⟩ | ⟨rfl, hb⟩ | ⟨rfl, hb⟩ | ⟨rfl, hb⟩ | ⟨rfl, hb⟩ | ⟨rfl, hb⟩ | ⟨rfl, hb⟩
    · by_cases hc : 128 ≤ b
      · have e1 : (bits BinOp.and IntKind.u8 (b / 128) 1 == 1) = true := by rw [and1 _ (by omega) (by omega), beq_iff_eq]; omega
        go_wp2
        go_roundw
        case rel => exact ⟨1, rfl, trivial, .inr (.inl ⟨rfl, by omega⟩)⟩
        case measure => simp [intOf]
      · have e1 : (bits BinOp.and IntKind.u8 (b / 128) 1 == 1) = false := by rw [and1 _ (by omega) (by omega), beq_eq_false_iff_ne]; omega
        go_wp2
        go_ret
        refine ⟨ret1_int ?_, rfl⟩
        rw [HO.out]
        repeat' split
        all_goals first | rfl | (exfalso; omega)
    · by_cases hc : 192 ≤ b
      · have e1 : (bits BinOp.and IntKind.u8 (b / 64) 1 == 1) = true := by rw [and1 _ (by omega) (by omega), beq_iff_eq]; omega
        go_wp2
        go_roundw
        case rel => exact ⟨2, rfl, trivial, .inr (.inr (.inl ⟨rfl, by omega⟩))⟩
        case measure => simp [intOf]
      · have e1 : (bits BinOp.and IntKind.u8 (b / 64) 1 == 1) = false := by rw [and1 _ (by omega) (by omega), beq_eq_false_iff_ne]; omega
        go_wp2
        go_ret
        refine ⟨ret1_int ?_, rfl⟩
        rw [HO.out]
        repeat' split
        all_goals first | rfl | (exfalso; omega)
    · by_cases hc : 224 ≤ b
      · have e1 : (bits BinOp.and IntKind.u8 (b / 32) 1 == 1) = true := by rw [and1 _ (by omega) (by omega), beq_iff_eq]; omega
        go_wp2
        go_roundw
        case rel => exact ⟨3, rfl, trivial, .inr (.inr (.inr (.inl ⟨rfl, by omega⟩)))⟩
        case measure => simp [intOf]
      · have e1 : (bits BinOp.and IntKind.u8 (b / 32) 1 == 1) = false := by rw [and1 _ (by omega) (by omega), beq_eq_false_iff_ne]; omega
        go_wp2
        go_ret
        refine ⟨ret1_int ?_, rfl⟩
        rw [HO.out]
        repeat' split
        all_goals first | rfl | (exfalso; omega)
    · by_cases hc : 240 ≤ b
      · have e1 : (bits BinOp.and IntKind.u8 (b / 16) 1 == 1) = true := by rw [and1 _ (by omega) (by omega), beq_iff_eq]; omega
        go_wp2
        go_roundw
        case rel => exact ⟨4, rfl, trivial, .inr (.inr (.inr (.inr (.inl ⟨rfl, by omega⟩))))⟩
        case measure => simp [intOf]
      · have e1 : (bits BinOp.and IntKind.u8 (b / 16) 1 == 1) = false := by rw [and1 _ (by omega) (by omega), beq_eq_false_iff_ne]; omega
        go_wp2
        go_ret
        refine ⟨ret1_int ?_, rfl⟩
        rw [HO.out]
        repeat' split
        all_goals first | rfl | (exfalso; omega)
    · by_cases hc : 248 ≤ b
      · have e1 : (bits BinOp.and IntKind.u8 (b / 8) 1 == 1) = true := by rw [and1 _ (by omega) (by omega), beq_iff_eq]; omega
        go_wp2
        go_roundw
        case rel => exact ⟨5, rfl, trivial, .inr (.inr (.inr (.inr (.inr (.inl ⟨rfl, by omega⟩)))))⟩
        case measure => simp [intOf]
      · have e1 : (bits BinOp.and IntKind.u8 (b / 8) 1 == 1) = false := by rw [and1 _ (by omega) (by omega), beq_eq_false_iff_ne]; omega
        go_wp2
        go_ret
        refine ⟨ret1_int ?_, rfl⟩
        rw [HO.out]
        repeat' split
        all_goals first | rfl | (exfalso; omega)
    · by_cases hc : 252 ≤ b
      · have e1 : (bits BinOp.and IntKind.u8 (b / 4) 1 == 1) = true := by rw [and1 _ (by omega) (by omega), beq_iff_eq]; omega
        go_wp2
        go_roundw
        case rel => exact ⟨6, rfl, trivial, .inr (.inr (.inr (.inr (.inr (.inr (.inl ⟨rfl, by omega⟩))))))⟩
        case measure => simp [intOf]
      · have e1 : (bits BinOp.and IntKind.u8 (b / 4) 1 == 1) = false := by rw [and1 _ (by omega) (by omega), beq_eq_false_iff_ne]; omega
        go_wp2
        go_ret
        refine ⟨ret1_int ?_, rfl⟩
        rw [HO.out]
        repeat' split
        all_goals first | rfl | (exfalso; omega)
    · by_cases hc : 254 ≤ b
      · have e1 : (bits BinOp.and IntKind.u8 (b / 2) 1 == 1) = true := by rw [and1 _ (by omega) (by omega), beq_iff_eq]; omega
        go_wp2
        go_roundw
        case rel => exact ⟨7, rfl, trivial, .inr (.inr (.inr (.inr (.inr (.inr (.inr (.inl ⟨rfl, by omega⟩)))))))⟩
        case measure => simp [intOf]
      · have e1 : (bits BinOp.and IntKind.u8 (b / 2) 1 == 1) = false := by rw [and1 _ (by omega) (by omega), beq_eq_false_iff_ne]; omega
        go_wp2
        go_ret
        refine ⟨ret1_int ?_, rfl⟩
        rw [HO.out]
        repeat' split
        all_goals first | rfl | (exfalso; omega)
    · by_cases hc : 255 ≤ b
      · have e1 : (bits BinOp.and IntKind.u8 (b) 1 == 1) = true := by rw [and1 _ (by omega) (by omega), beq_iff_eq]; omega
        go_wp2
        go_roundw
        case rel => exact ⟨8, rfl, trivial, .inr (.inr (.inr (.inr (.inr (.inr (.inr (.inr (⟨rfl, by omega⟩))))))))⟩
        case measure => simp [intOf]
      · have e1 : (bits BinOp.and IntKind.u8 (b) 1 == 1) = false := by rw [and1 _ (by omega) (by omega), beq_eq_false_iff_ne]; omega
        go_wp2
        go_ret
        refine ⟨ret1_int ?_, rfl⟩
        rw [HO.out]
        repeat' split
        all_goals first | rfl | (exfalso; omega)
    · go_wp2
      go_ret
      refine ⟨ret1_int ?_, rfl⟩
      rw [HO.out]
      repeat' split
      all_goals first | rfl | (exfalso; omega)

end Go.Proofs.Ytmipnikhgihcpaa
